/- Symbolic evaluation as a condition, and that it is sound. -/
import Derived.Test.YtfgocjmkefeeeaaDoorEfD
import Derived.Lib.Strings
/- Symbolic evaluation: the evaluator's steps as a condition on what is to hold at the end. Tests on values that are not known part the condition; calls and loops may be taken from a table. -/
namespace Go.Ef
open Go
noncomputable section

structure CAlt where
  α : Type
  post : α → Prop
  val : α → AV
  heap : α → Heap
structure CSpec where
  pre : Prop
  alts : List CAlt
structure LAlt where
  α : Type
  post : α → Prop
  ex : Ex
  st : α → St
structure LSpec where
  pre : Prop
  alts : List LAlt
def wpCAlts (l : List CAlt) (K : AV → Heap → Prop) : Prop :=
  List.rec (motive := fun _ => Prop) True (fun s r ih => List.rec (motive := fun _ => Prop) (∀ x, s.post x → K (s.val x) (s.heap x)) (fun _ _ _ => (∀ x, s.post x → K (s.val x) (s.heap x)) ∧ ih) r) l
def wpLAlts (l : List LAlt) (K : Ex → St → Prop) : Prop :=
  List.rec (motive := fun _ => Prop) True (fun s r ih => List.rec (motive := fun _ => Prop) (∀ x, s.post x → K s.ex (s.st x)) (fun _ _ _ => (∀ x, s.post x → K s.ex (s.st x)) ∧ ih) r) l
structure Tab where
  call : FuncId → Option (List AV → Heap → Option CSpec)
  loop : FuncId → Nat → Option (St → Option LSpec)
  exact : FuncId → Nat → Bool
  named : FuncId → Nat → Bool

def findLoop (n i : Nat) : Code → Option Code :=
  Nat.rec (motive := fun _ => Code → Option Code) (fun _ => none) (fun _ ih c => match c with
    | .seq a b => match ih a with
      | some x => some x
      | none => ih b
    | .cond _ a b => match ih a with
      | some x => some x
      | none => ih b
    | .block _ b => ih b
    | .scope b => ih b
    | .loop b => bif Nat.beq (firstId 8 b) i then some b else ih b
    | _ => none) n
def loopAt (P : Program) (f : FuncId) (i : Nat) : Code :=
  match P.funcs[f]? with
  | some fn => match fn.body with
    | some c => match findLoop 400 i c with
      | some b => b
      | none => .skip
    | none => .skip
  | none => .skip

def iteP (q : Bool) (A B : Prop) : Prop := Bool.rec (motive := fun _ => Prop) B A q

def inRange (n : Int) (m : Nat) : Bool := decide (0 ≤ n) && decide (n < m)
def byteAt (l : List UInt8) (n : Int) : Int := ((l[n.toNat]?).getD 0).toNat
def cutL {α : Type} (l : List α) (a b : Int) : List α := (l.take b.toNat).drop a.toNat
def byteD (e : List AV) : UInt8 := (byteOf e).getD 0
def isByteCell (e : List AV) : Bool := Nat.beq e.length 1 && (byteOf e).isSome
def bytesLt : List UInt8 → List UInt8 → Bool := Op.bytesLess

abbrev KS := Slot → St → Prop
abbrev KR := Ex → St → Prop
abbrev RunW := FuncId → Code → St → KR → Prop

/- Values in their plainest form: so that what comes next need not go through what was before. -/
def forceL (f : AV → (AV → Prop) → Prop) (l : List AV) (k : List AV → Prop) : Prop :=
  List.rec (motive := fun _ => (List AV → Prop) → Prop) (fun k => k []) (fun x _ ih k => f x fun y => ih fun l => k (y :: l)) l k
def forceA (n : Nat) : AV → (AV → Prop) → Prop :=
  Nat.rec (motive := fun _ => AV → (AV → Prop) → Prop) (fun a k => k a)
    (fun _ ih a k => match a with
      | .sc v => match v with
        | .int kd i => k (.sc (.int kd i))
        | .string s => match s with
          | ⟨a⟩ => match a with
            | ⟨l⟩ => k (.sc (.string ⟨⟨l⟩⟩))
        | v => k (.sc v)
      | .agg cs => forceL ih cs fun l => k (.agg l)
      | .tup cs => forceL ih cs fun l => k (.tup l)
      | a => k a) n
def forceO (v : Option Slot) (k : Option Slot → Prop) : Prop :=
  match v with
  | none => k none
  | some s => match s with
    | .v a => forceA 2 a fun a => k (some (.v a))
    | .lp i j => k (some (.lp i j))
    | .unk => k (some .unk)
def forceT (t : Tr Slot) (k : Tr Slot → Prop) : Prop :=
  Tr.rec (motive := fun _ => (Tr Slot → Prop) → Prop) (fun k => k .leaf) (fun _ v _ ihl ihr k => ihl fun l => ihr fun r => forceO v fun v => k (.node l v r)) t k
def forceC (l : List LObj) (k : List LObj → Prop) : Prop :=
  List.rec (motive := fun _ => (List LObj → Prop) → Prop) (fun k => k [])
    (fun x _ ih k => match x with
      | .cells cs => forceL (forceA 1) cs fun cs => ih fun l => k (.cells cs :: l)
      | .iter s p => ih fun l => k (.iter s p :: l)) l k
def forceH (t : Tr AObj) (k : Tr AObj → Prop) : Prop :=
  Tr.rec (motive := fun _ => (Tr AObj → Prop) → Prop) (fun k => k .leaf)
    (fun _ v _ ihl ihr k => ihl fun l => ihr fun r => match v with
      | none => k (.node l none r)
      | some o => match o with
        | .cells cs => forceL (forceA 1) cs fun cs => k (.node l (some (.cells cs)) r)
        | o => k (.node l (some o) r)) t k
def forceS (σ : St) (k : St → Prop) : Prop :=
  match σ with
  | ⟨n, tm, d, loc, h⟩ => forceT tm fun tm => forceC loc fun loc => match h with
    | ⟨nx, objs, ro, ty⟩ => forceH objs fun objs => k ⟨n, tm, d, loc, ⟨nx, objs, ro, ty⟩⟩

def wpRes (r : Res) (K : KS) : Prop :=
  match r with
  | some (s, σ) => K s σ
  | none => False

def wpPut (σ : St) (d : Option Nat) (s : Slot) (K : St → Prop) : Prop :=
  match s with
  | .v (.sc (.bool q)) => iteP q
      (match σ.put d (.v (.sc (.bool true))) with | some τ => K τ | none => False)
      (match σ.put d (.v (.sc (.bool false))) with | some τ => K τ | none => False)
  | s => match σ.put d s with | some τ => K τ | none => False

/- A slot whose value gets a name of its own. -/
def namedAt (T : Tab) (f : FuncId) : Option Nat → Bool
  | some t => T.named f t
  | none => false
def wpPutN (T : Tab) (f : FuncId) (σ : St) (d : Option Nat) (s : Slot) (K : St → Prop) : Prop :=
  bif namedAt T f d then
    (match s with
     | .v (.sc (.int k n)) => ∀ m : Int, m = n → wpPut σ d (.v (.sc (.int k m))) K
     | .v (.sc (.string b)) => ∀ l : List UInt8, l = b.data.toList → wpPut σ d (.v (.sc (.string ⟨⟨l⟩⟩))) K
     | s => wpPut σ d s K)
  else wpPut σ d s K

def wpSel (n : Int) (F : Nat → Prop) (m : Nat) : Prop :=
  Nat.rec (motive := fun _ => Prop) False (fun j ih => iteP (decide (n = (j : Int))) (F j) ih) m

def wpIndex (P : Program) (σ : St) (t : TypeId) (x i : Operand) (K : KS) : Prop :=
  match σ.val x with
  | some (.sc (.string s)) => match σ.val i with
    | some (.sc (.int _ n)) => bif isStringT P t then iteP (inRange n s.data.toList.length) (K (.v (.sc (.int .u8 (byteAt s.data.toList n)))) σ) False else False
    | _ => False
  | some (.agg cs) => match σ.val i with
    | some (.sc (.int _ n)) => match arrT P t with
      | some (m, e) => match sizeT P e with
        | some z => wpSel n (fun j => wpRes (resV σ (partA P e (j * z) cs)) K) m
        | none => False
      | none => False
    | _ => False
  | _ => False

def optI (σ : St) : Option Operand → Option (Option Int)
  | none => some none
  | some x => match σ.val x with
    | some (.sc (.int _ n)) => some (some n)
    | _ => none

def wpCutStr (σ : St) (l : List UInt8) (lo hi : Option Int) (K : KS) : Prop :=
  match hi with
  | none => match lo with
    | none => K (.v (.sc (.string ⟨⟨l⟩⟩))) σ
    | some a => iteP (decide (0 ≤ a) && decide (a ≤ (l.length : Int))) (K (.v (.sc (.string ⟨⟨l.drop a.toNat⟩⟩))) σ) False
  | some b => match lo with
    | none => iteP (decide (0 ≤ b) && decide (b ≤ (l.length : Int))) (K (.v (.sc (.string ⟨⟨l.take b.toNat⟩⟩))) σ) False
    | some a => iteP (decide (0 ≤ a) && (decide (a ≤ b) && decide (b ≤ (l.length : Int)))) (K (.v (.sc (.string ⟨⟨cutL l a b⟩⟩))) σ) False

def wpCutSl (σ : St) (els : List (List AV)) (tok : Nat) (lo hi : Option Int) (K : KS) : Prop :=
  match tok with
  | 0 => (match hi with
    | none => match lo with
      | none => K (.v (.sl els 0)) σ
      | some a => iteP (decide (0 ≤ a) && decide (a ≤ (els.length : Int))) (K (.v (.sl (els.drop a.toNat) 0)) σ) False
    | some b => match lo with
      | none => iteP (decide (0 ≤ b) && decide (b ≤ (els.length : Int))) (K (.v (.sl (els.take b.toNat) 0)) σ) False
      | some a => iteP (decide (0 ≤ a) && (decide (a ≤ b) && decide (b ≤ (els.length : Int)))) (K (.v (.sl (cutL els a b) 0)) σ) False)
  | tok + 1 => (match hi with
    | none => match lo with
      | none => K (.v (.sl els (tok + 1))) σ
      | some a => iteP (decide (0 ≤ a) && decide (a ≤ (els.length : Int))) (iteP (decide (a = 0)) (K (.v (.sl els (tok + 1))) σ) (K (.v (.sl (els.drop a.toNat) 1)) σ)) False
    | some b => match lo with
      | none => iteP (decide (0 ≤ b) && decide (b ≤ (els.length : Int))) (iteP (decide (b = (els.length : Int))) (K (.v (.sl els (tok + 1))) σ) (K (.v (.sl (els.take b.toNat) 1)) σ)) False
      | some a => iteP (decide (0 ≤ a) && (decide (a ≤ b) && decide (b ≤ (els.length : Int)))) (iteP (decide (b = (els.length : Int)) && decide (a = 0)) (K (.v (.sl els (tok + 1))) σ) (K (.v (.sl (cutL els a b) 1)) σ)) False)

def wpSlice (P : Program) (σ : St) (t : TypeId) (x : Operand) (lo hi mx : Option Operand) (K : KS) : Prop :=
  match mx with
  | some _ => False
  | none => match σ.val x with
    | some (.sc (.string s)) => match P.underlying t with
      | some .string => match optI σ lo with
        | some l => match optI σ hi with
          | some h => wpCutStr σ s.data.toList l h K
          | none => False
        | none => False
      | _ => False
    | some (.sl els tok) => match sliceOf P t with
      | some k => iteP (headLen k els) (match optI σ lo with
        | some l => match optI σ hi with
          | some h => wpCutSl σ els tok l h K
          | none => False
        | none => False) False
      | none => False
    | _ => wpRes (opSlice P σ t x lo hi none) K

/- What a cell of a type holds. -/
inductive Kd where
  | int (k : IntKind)
  | str
  | bool
  | sl

def kdT (P : Program) : Nat → TypeId → Option (List Kd)
  | 0, _ => none
  | n + 1, t => match P.underlying t with
    | some (.int k) => some [.int k]
    | some .string => some [.str]
    | some .bool => some [.bool]
    | some (.slice _) => some [.sl]
    | some (.struct fs) => (mapO (fun f => kdT P n f.type) fs.toList).map List.flatten
    | _ => none

def cellAt (els : List (List AV)) (n : Int) (j : Nat) : Option AV :=
  match getI n.toNat els with
  | some c => getI j c
  | none => none
def cellInt (els : List (List AV)) (n : Int) (j : Nat) : Int :=
  match cellAt els n j with
  | some (.sc (.int _ v)) => v
  | _ => 0
def cellStr (els : List (List AV)) (n : Int) (j : Nat) : List UInt8 :=
  match cellAt els n j with
  | some (.sc (.string s)) => s.data.toList
  | _ => []
def cellBool (els : List (List AV)) (n : Int) (j : Nat) : Bool :=
  match cellAt els n j with
  | some (.sc (.bool b)) => b
  | _ => false
def cellSl (els : List (List AV)) (n : Int) (j : Nat) : List (List AV) :=
  match cellAt els n j with
  | some (.sl e _) => e
  | _ => []
def mkCells (els : List (List AV)) (n : Int) : Nat → List Kd → List AV
  | _, [] => []
  | j, .int k :: r => .sc (.int k (cellInt els n j)) :: mkCells els n (j + 1) r
  | j, .str :: r => .sc (.string ⟨⟨cellStr els n j⟩⟩) :: mkCells els n (j + 1) r
  | j, .bool :: r => .sc (.bool (cellBool els n j)) :: mkCells els n (j + 1) r
  | j, .sl :: r => .sl (cellSl els n j) 0 :: mkCells els n (j + 1) r

def exactAt (T : Tab) (f : FuncId) : Option Nat → Bool
  | some t => T.exact f t
  | none => false

def wpIndexAddr (T : Tab) (P : Program) (f : FuncId) (d : Option Nat) (σ : St) (t : TypeId) (x i : Operand) (K : KS) : Prop :=
  bif exactAt T f d then wpRes (opIndexAddr P σ t x i) K else
  match σ.slot x with
  | some (.v (.sl els _)) => match σ.val i with
    | some (.sc (.int _ n)) => match elemT P t with
      | some e => match sizeT P e with
        | some z => match kdT P 3 e with
          | some ks => bif Nat.beq (mkCells els n 0 ks).length z then iteP (inRange n els.length) (getI n.toNat els = some (mkCells els n 0 ks) ∧ K (.v (.cp (mkCells els n 0 ks))) σ) False else False
          | none => wpRes (opIndexAddr P σ t x i) K
        | none => False
      | none => False
    | _ => False
  | some (.lp k off) => match σ.val i with
    | some (.sc (.int _ n)) => match arrT P t with
      | some (m, e) => match sizeT P e with
        | some z => wpSel n (fun j => match moveSlot (.lp k off) (j * z) with | some p => K p σ | none => False) m
        | none => False
      | none => False
    | _ => False
  | some (.v (.gp g off)) => match σ.val i with
    | some (.sc (.int _ n)) => match arrT P t with
      | some (m, e) => match sizeT P e with
        | some z => wpSel n (fun j => match moveSlot (.v (.gp g off)) (j * z) with | some p => K p σ | none => False) m
        | none => False
      | none => False
    | _ => False
  | _ => wpRes (opIndexAddr P σ t x i) K

/- A value that the kernel does not look into. -/
def lk {α : Type} (a : α) : α := (Classical.choice (⟨⟨a, rfl⟩⟩ : Nonempty { x : α // x = a })).1
theorem lk_eq {α : Type} (a : α) : lk a = a := (Classical.choice (⟨⟨a, rfl⟩⟩ : Nonempty { x : α // x = a })).2
def strFits (a b : List UInt8) : Bool := lk (decide ((a.length : Int) + b.length ≤ 9223372036854775807))
theorem strFits_iff {a b : List UInt8} : (strFits a b = true) = ((a.length : Int) + b.length ≤ 9223372036854775807) := by unfold strFits; rw [lk_eq]; simp
def wpBinStr (σ : St) (op : BinOp) (a b : List UInt8) (K : KS) : Prop :=
  match op with
  | .add => iteP (strFits a b) (K (.v (.sc (.string ⟨⟨a ++ b⟩⟩))) σ) False
  | .eql => K (.v (.sc (.bool (decide (a = b))))) σ
  | .neq => K (.v (.sc (.bool (decide (a ≠ b))))) σ
  | .lss => K (.v (.sc (.bool (bytesLt a b)))) σ
  | .leq => K (.v (.sc (.bool (bytesLt a b || decide (a = b))))) σ
  | .gtr => K (.v (.sc (.bool (!(bytesLt a b || decide (a = b)))))) σ
  | .geq => K (.v (.sc (.bool (!bytesLt a b)))) σ
  | _ => False

def wpBin (P : Program) (σ : St) (op : BinOp) (t : TypeId) (x y : Operand) (K : KS) : Prop :=
  match σ.val x with
  | some (.sc (.string a)) => match σ.val y with
    | some (.sc (.string b)) => wpBinStr σ op a.data.toList b.data.toList K
    | _ => False
  | _ => wpRes (opBin P σ op t x y) K

def wpConv (P : Program) (σ : St) (s d : TypeId) (x : Operand) (K : KS) : Prop :=
  match σ.val x with
  | some (.sl els _) => match P.underlying s, P.underlying d with
    | some (.slice e), some .string => match P.underlying e with
      | some (.int .u8) => iteP (els.all isByteCell) (K (.v (.sc (.string ⟨⟨els.map byteD⟩⟩))) σ) False
      | _ => False
    | _, _ => False
  | some (.sc (.string b)) => match P.underlying s, P.underlying d with
    | some .string, some (.slice e) => match P.underlying e with
      | some (.int .u8) => iteP (Nat.ble b.data.toList.length maxRoom) (K (.v (.sl (b.data.toList.map fun b => [.sc (.int .u8 b.toNat)]) (σ.h.next + 1))) { σ with h := (σ.h.new (.own 1 e (b.data.toList.map fun b => [AV.sc (.int .u8 b.toNat)]).length)).2 }) False
      | _ => False
    | _, _ => wpRes (opConv P σ s d x) K
  | _ => wpRes (opConv P σ s d x) K

def wpElems (σ : St) (k : Nat) (x : AV) (K : List (List AV) → Prop) : Prop :=
  match x with
  | .sl els _ => iteP (els.all (fun e => Nat.beq e.length k)) (K els) False
  | .sc (.string s) => bif Nat.beq k 1 then K (s.data.toList.map fun b => [.sc (.int .u8 b.toNat)]) else False
  | x => match σ.elems k x with
    | some els => K els
    | none => False

def wpAppendO (σ : St) (e : TypeId) (i : TypeInfo) (els : List (List AV)) (tok : Nat) (new : List (List AV)) (K : KS) : Prop :=
  iteP (allLen i.size els && fits (els.length + new.length) i.bytes)
    (match tok with
     | 0 => False
     | id + 1 => match σ.h.get id with
       | some (.own k e' n) => bif Nat.beq k i.size && Nat.beq e' e then iteP (decide (els.length = n))
           (match σ.h.put id (.own k e (n + new.length)) with
            | some h => K (.v (.sl (els ++ new) (id + 1))) { σ with h := h }
            | none => False) False else False
       | _ => False) False

def wpAppendS (C : Cfg) (σ : St) (f : FuncId) (d : Option Nat) (e : TypeId) (i : TypeInfo) (s : AV) (new : List (List AV)) (K : KS) : Prop :=
  match s with
  | .sc (.slice none 0 0) => iteP new.isEmpty (K (.v s) σ) (iteP (fits new.length i.bytes) (K (.v (σ.newSlice C f d i.size e new).1) (σ.newSlice C f d i.size e new).2) False)
  | .sl els tok => iteP new.isEmpty (K (.v s) σ) (wpAppendO σ e i els tok new K)
  | s => wpRes (appendS C σ f d e i s new) K

def wpAppend (C : Cfg) (P : Program) (σ : St) (f : FuncId) (d : Option Nat) (types : Array TypeId) (s x : AV) (K : KS) : Prop :=
  match types[0]?, types[1]? with
  | some t, some u => bif isRowT P u then
    (match elemT P t with
     | some e => match P.info? e with
       | some i => bif Nat.beq i.size 0 then False else
         wpElems σ i.size x fun new =>
           iteP (new.all (fun e => e.all AV.one)) (bif (zeroA P e).any (fun z => Nat.beq z.cells.length i.size) then wpAppendS C σ f d e i s new K else False) False
       | none => False
     | none => False) else False
  | _, _ => False

def wpBuiltin (C : Cfg) (P : Program) (σ : St) (f : FuncId) (d : Option Nat) (b : Builtin) (types : Array TypeId) (type : TypeId) (args : List AV) (K : KS) : Prop :=
  match b with
  | .append => match args with
    | [s, x] => wpAppend C P σ f d types s x K
    | _ => False
  | .len => match args with
    | [.sc (.string s)] => match types[0]? with
      | some t => bif isStringT P t then K (.v (intA s.data.toList.length)) σ else False
      | none => False
    | _ => wpRes (evBuiltin C P σ f d .len types type args) K
  | .min => match args with
    | [.sc (.int k x), .sc (.int _ y)] => K (.v (.sc (.int k (min x y)))) σ
    | _ => wpRes (evBuiltin C P σ f d .min types type args) K
  | .max => match args with
    | [.sc (.int k x), .sc (.int _ y)] => K (.v (.sc (.int k (max x y)))) σ
    | _ => wpRes (evBuiltin C P σ f d .max types type args) K
  | b => wpRes (evBuiltin C P σ f d b types type args) K

/- Without ids, as a condition. -/
def wpStrip (n : Nat) : AV → (AV → Prop) → Prop :=
  Nat.rec (motive := fun _ => AV → (AV → Prop) → Prop)
    (fun v K => match v with
      | .sc v => K (.sc v)
      | .sl els 0 => K (.sl els 0)
      | _ => False)
    (fun _ ih v K => match v with
      | .sc v => K (.sc v)
      | .sl els 0 => K (.sl els 0)
      | .sl els (_ + 1) => iteP (plainEls els) (K (.sl els 0)) False
      | .agg cs => List.rec (motive := fun _ => (List AV → Prop) → Prop) (fun k => k []) (fun x _ ihl k => ih x fun y => ihl fun l => k (y :: l)) cs fun l => K (.agg l)
      | .tup cs => List.rec (motive := fun _ => (List AV → Prop) → Prop) (fun k => k []) (fun x _ ihl k => ih x fun y => ihl fun l => k (y :: l)) cs fun l => K (.tup l)
      | .ifc t v => ih v fun y => K (.ifc t y)
      | .fn f a b => List.rec (motive := fun _ => (List AV → Prop) → Prop) (fun k => k []) (fun x _ ihl k => ih x fun y => ihl fun l => k (y :: l)) a fun l =>
          List.rec (motive := fun _ => (List AV → Prop) → Prop) (fun k => k []) (fun x _ ihl k => ih x fun y => ihl fun l => k (y :: l)) b fun m => K (.fn f l m)
      | _ => False) n
def wpStrips (l : List AV) (K : List AV → Prop) : Prop :=
  List.rec (motive := fun _ => (List AV → Prop) → Prop) (fun k => k []) (fun x _ ihl k => wpStrip 8 x fun y => ihl fun l => k (y :: l)) l K

def wpBack (h : Heap) (r : AV) (K : AV → Prop) : Prop :=
  match r with
  | .rsl id off len k => match strip 8 h (.rsl id off len k) with
    | some y => K y
    | none => False
  | r => wpStrip 8 r K

abbrev CallW := FuncId → List AV → Heap → (AV → Heap → Prop) → Prop

def wpCallP (T : Tab) (C : Cfg) (call : CallW) (g : FuncId) (args : List AV) (h : Heap) (K : AV → Heap → Prop) : Prop :=
  match T.call g with
  | some t => match t args h with
    | some s => s.pre ∧ wpCAlts s.alts K
    | none => False
  | none => match C.prim g with
    | some p => match p args h with
      | some (v, h') => K v h'
      | none => False
    | none => bif C.fresh g then wpStrips args fun args' => call g args' heapF fun r h' => wpBack h' r fun r' => K r' h
      else bif C.pure g then call g args { h with ro := h.next } fun r h' => wpBack h' r fun r' => K r' h
      else call g args h K

def wpCallV (T : Tab) (C : Cfg) (call : CallW) (σ : St) (x : Operand) (args : List AV) (K : KS) : Prop :=
  match σ.val x with
  | some (.fn (.func g) first cap) => wpCallP T C call g (first ++ args ++ cap) σ.h fun v h => K (.v v) { σ with h := h }
  | _ => False

def wpCallM (T : Tab) (C : Cfg) (P : Program) (call : CallW) (σ : St) (x : Operand) (name : String) (args : List AV) (K : KS) : Prop :=
  match σ.val x with
  | some (.ifc t v) => match evMethod P t v name with
    | some (g, r) => wpCallP T C call g (r :: args) σ.h fun v h => K (.v v) { σ with h := h }
    | none => False
  | _ => False

def wpOpCall (T : Tab) (C : Cfg) (P : Program) (call : CallW) (f : FuncId) (d : Option Nat) (type : TypeId) (c : Call) (σ : St) (K : KS) : Prop :=
  match mapO σ.val c.args.toList with
  | none => False
  | some args => match c.callee with
    | .builtin b => wpBuiltin C P σ f d b c.argTypes type args K
    | .value x => wpCallV T C call σ x args K
    | .invoke x name => wpCallM T C P call σ x name args K

def noCall : CallF := fun _ _ _ => none

def wpOp (T : Tab) (C : Cfg) (P : Program) (call : CallW) (f : FuncId) (o : Oper) (σ : St) (K : KS) : Prop :=
  match o.op with
  | .index t x i => wpIndex P σ t x i K
  | .slice t x lo hi mx => wpSlice P σ t x lo hi mx K
  | .indexAddr t x i => wpIndexAddr T P f o.dst σ t x i K
  | .binOp op t x y _ => wpBin P σ op t x y K
  | .convert s d x => wpConv P σ s d x K
  | .call c => wpOpCall T C P call f o.dst o.type c σ K
  | _ => wpRes (evOp C P noCall f o σ) K

def wpStep (T : Tab) (C : Cfg) (P : Program) (call : CallW) (f : FuncId) (ops : Array Oper) (o : Oper) (σ : St) (K : St → Prop) : Prop :=
  match wantedA ops o σ with
  | some q => iteP q (wpOp T C P call f o σ fun s τ => wpPutN T f τ o.dst s K) (match σ.put o.dst (.v (.sc undef)) with | some τ => K τ | none => False)
  | none => False

def wpOpsW (T : Tab) (C : Cfg) (P : Program) (call : CallW) (f : FuncId) (ops : Array Oper) (l : List Oper) (σ : St) (K : St → Prop) : Prop :=
  List.rec (motive := fun _ => St → Prop) K (fun o _ ih σ => wpStep T C P call f ops o σ ih) l σ

def entry (fn : Func) (args : List AV) (h : Heap) : St := { n := args.length + (fn.ntmps - args.length), tm := argTr 0 args .leaf, d := .v (.sc undef), loc := [], h := h }

def wpCallB (C : Cfg) (P : Program) (run : RunW) : CallW := fun g args h K =>
  match P.funcs[g]? with
  | some fn => match fn.body with
    | some c => run g c (entry fn args h) fun e σ => match endOf C P fn.results.toList (some (e, σ)) with
      | some (v, h') => K v h'
      | none => False
    | none => False
  | none => False

def wpCode1 (T : Tab) (C : Cfg) (P : Program) (ih : RunW) (f : FuncId) (c : Code) (σ : St) (K : KR) : Prop :=
  match c with
  | .skip => K .normal σ
  | .region id ops draw => bif draw && C.bad f id then False else wpOpsW T C P (wpCallB C P ih) f ops ops.toList σ fun τ => forceS τ fun τ => K .normal τ
  | .seq a b => ih f a σ fun e τ => match e with
    | .normal => ih f b τ K
    | .exit i => K (.exit i) τ
    | .ret => K .ret τ
  | .cond c a b => match σ.val c with
    | some (.sc (.bool t)) => iteP t (ih f a σ K) (ih f b σ K)
    | _ => False
  | .block id b => ih f b σ fun e τ => match e with
    | .normal => K .normal τ
    | .exit i => bif Nat.beq i id then K .normal τ else K (.exit i) τ
    | .ret => K .ret τ
  | .loop b => match T.loop f (firstId 8 b) with
    | some t => match t σ with
      | some s => loopAt P f (firstId 8 b) = b ∧ s.pre ∧ wpLAlts s.alts K
      | none => False
    | none => match C.tidy f (firstId 8 b) with
      | none => ih f b σ fun e τ => match e with
        | .normal => ih f (.loop b) τ K
        | .exit i => K (.exit i) τ
        | .ret => K .ret τ
      | some t => ih f b (σ.tidy t.head t.nloc) fun e τ => match e with
        | .normal => ih f (.loop b) τ K
        | .exit i => K (.exit i) (τ.tidy t.exit t.nloc)
        | .ret => K .ret (τ.tidy t.exit t.nloc)
  | .exit id => K (.exit id) σ
  | .ret => K .ret σ
  | .scope b => ih f b σ K
  | .label _ => K .normal σ
  | _ => False

def wpCode (T : Tab) (C : Cfg) (P : Program) (n : Nat) : RunW :=
  Nat.rec (motive := fun _ => RunW) (fun _ _ _ _ => False) (fun _ ih => wpCode1 T C P ih) n

def wpCall (T : Tab) (C : Cfg) (P : Program) (n : Nat) : CallW := wpCallB C P (wpCode T C P n)

end
end Go.Ef

/- Symbolic evaluation is sound: operations. -/
namespace Go.Ef
open Go

theorem iteP_elim {q : Bool} {A B : Prop} (h : iteP q A B) : (q = true ∧ A) ∨ (q = false ∧ B) := by
  cases q with
  | true => exact .inl ⟨rfl, h⟩
  | false => exact .inr ⟨rfl, h⟩
theorem iteP_false {q : Bool} {A : Prop} (h : iteP q A False) : q = true ∧ A := by
  rcases iteP_elim h with h | h
  · exact h
  · exact h.2.elim
theorem iteP_intro {q : Bool} {A B : Prop} (h1 : q = true → A) (h2 : q = false → B) : iteP q A B := by
  cases q with
  | true => exact h1 rfl
  | false => exact h2 rfl
theorem cond_prop {q : Bool} {A : Prop} (h : bif q then A else False) : q = true ∧ A := by
  cases q with
  | true => exact ⟨rfl, h⟩
  | false => exact h.elim

section
variable {P : Program} {C : Cfg} {σ : St} {K : KS}

theorem wpRes_ok {r : Res} (h : wpRes r K) : ∃ s τ, r = some (s, τ) ∧ K s τ := by
  unfold wpRes at h
  split at h
  · exact ⟨_, _, rfl, h⟩
  · exact h.elim

theorem wpPut_ok {d : Option Nat} {s : Slot} {k : St → Prop} (h : wpPut σ d s k) : ∃ τ, σ.put d s = some τ ∧ k τ := by
  unfold wpPut at h
  split at h
  · rename_i q
    rcases iteP_elim h with ⟨hq, h'⟩ | ⟨hq, h'⟩
    · clear h
      subst hq
      split at h'
      · exact ⟨_, ‹_›, h'⟩
      · exact h'.elim
    · clear h
      subst hq
      split at h'
      · exact ⟨_, ‹_›, h'⟩
      · exact h'.elim
  · split at h
    · exact ⟨_, ‹_›, h⟩
    · exact h.elim

theorem wpPutN_ok {T : Tab} {f : FuncId} {d : Option Nat} {s : Slot} {k : St → Prop} (h : wpPutN T f σ d s k) : ∃ τ, σ.put d s = some τ ∧ k τ := by
  unfold wpPutN at h
  cases hn : namedAt T f d with
  | false => rw [hn] at h; exact wpPut_ok h
  | true =>
    rw [hn] at h
    simp only [cond_true] at h
    split at h
    · exact wpPut_ok (h _ rfl)
    · exact wpPut_ok (h _ rfl)
    · exact wpPut_ok h

theorem wpSel_ok {n : Int} {F : Nat → Prop} : ∀ {m : Nat}, wpSel n F m → ∃ j, j < m ∧ n = (j : Int) ∧ F j := by
  intro m
  induction m with
  | zero => intro h; exact h.elim
  | succ m ih =>
    intro h
    have h : iteP (decide (n = (m : Int))) (F m) (wpSel n F m) := h
    rcases iteP_elim h with ⟨h1, h2⟩ | ⟨_, h2⟩
    · exact ⟨m, Nat.lt_succ_self m, by simpa using h1, h2⟩
    · obtain ⟨j, h3, h4⟩ := ih h2
      exact ⟨j, Nat.lt_succ_of_lt h3, h4⟩

theorem inRange_spec {n : Int} {m : Nat} (h : inRange n m = true) : 0 ≤ n ∧ n < m ∧ n.toNat < m := by
  simp only [inRange, Bool.and_eq_true, decide_eq_true_eq] at h
  exact ⟨h.1, h.2, by omega⟩
theorem idx_of {n : Int} {m : Nat} (h : inRange n m = true) (k : IntKind) : idx m (.sc (.int k n)) = some n.toNat := by
  obtain ⟨h1, h2, _⟩ := inRange_spec h
  unfold idx
  simp [h1, h2]
theorem idx_nat {j m : Nat} (h : j < m) (k : IntKind) : idx m (.sc (.int k (j : Int))) = some j := by
  unfold idx
  simp [h]

theorem bytes_get (s : ByteArray) (j : Nat) (h : j < s.data.toList.length) : s[j]? = some ((s.data.toList[j]?).getD 0) := by
  have h1 : j < s.size := by
    have : s.data.toList.length = s.size := Array.length_toList
    omega
  rw [List.getElem?_eq_getElem h, Option.getD_some]
  rw [getElem?_pos s j h1]
  rfl
theorem size_list (s : ByteArray) : s.data.toList.length = s.size := Array.length_toList

theorem wpIndex_ok {t : TypeId} {x i : Operand} (h : wpIndex P σ t x i K) : ∃ s τ, opIndex P σ t x i = some (s, τ) ∧ K s τ := by
  unfold wpIndex at h
  unfold opIndex
  split at h
  · rename_i s hs
    split at h
    · rename_i k n hi
      obtain ⟨h1, h⟩ := cond_prop h
      obtain ⟨h2, h⟩ := iteP_false h
      refine ⟨_, _, ?_, h⟩
      have h3 := (inRange_spec h2).2.2
      rw [hs]; simp only []; rw [hi]; simp only []
      unfold indexStr
      rw [h1]
      rw [size_list] at h2
      simp only [cond_true, idx_of h2, bytes_get s _ h3]
      rfl
    · exact h.elim
  · rename_i cs hs
    split at h
    · rename_i k n hi
      split at h
      · rename_i m e ha
        split at h
        · rename_i z hz
          obtain ⟨j, hj, rfl, h'⟩ := wpSel_ok h
          obtain ⟨s, τ, h1, h2⟩ := wpRes_ok h'
          refine ⟨s, τ, ?_, h2⟩
          rw [hs]; simp only []; rw [hi]; simp only []
          unfold indexAgg
          rw [ha]; simp only []; rw [hz, idx_nat hj]
          exact h1
        · exact h.elim
      · exact h.elim
    · exact h.elim
  · exact h.elim

theorem optI_val {x : Option Operand} {v : Option Int} (h : optI σ x = some v) : (v = none ∧ optVal σ x = some none) ∨ ∃ n k, v = some n ∧ optVal σ x = some (some (.sc (.int k n))) := by
  cases x with
  | none => simp only [optI] at h; cases h; exact .inl ⟨rfl, rfl⟩
  | some x =>
    simp only [optI] at h
    split at h
    · rename_i k n hx
      cases h
      exact .inr ⟨n, k, rfl, by simp only [optVal, hx]⟩
    · cases h

/- A range, out of the whole numbers. -/
theorem range_of {n : Nat} {lo hi : Option Int} {l h : Option AV} (hl : (lo = none ∧ l = none) ∨ ∃ i k, lo = some i ∧ l = some (.sc (.int k i))) (hh : (hi = none ∧ h = none) ∨ ∃ i k, hi = some i ∧ h = some (.sc (.int k i)))
    (a b : Int) (ha : a = lo.getD 0) (hb : b = hi.getD n) (h0 : 0 ≤ a) (h1 : a ≤ b) (h2 : b ≤ n) : evRange n l h = some (a.toNat, b.toNat) := by
  have e1 : bound n n h = some b.toNat := by
    rcases hh with ⟨rfl, rfl⟩ | ⟨i, k, rfl, rfl⟩
    · simp only [Option.getD_none] at hb; subst hb; simp [bound]
    · simp only [Option.getD_some] at hb; subst hb
      have : 0 ≤ b := by omega
      simp [bound, this, h2]
  have e2 : bound b.toNat 0 l = some a.toNat := by
    rcases hl with ⟨rfl, rfl⟩ | ⟨i, k, rfl, rfl⟩
    · simp only [Option.getD_none] at ha; subst ha; simp [bound]
    · simp only [Option.getD_some] at ha; subst ha
      have : a ≤ (b.toNat : Int) := by omega
      simp only [bound, h0, this, decide_true, Bool.and_self, cond_true]
  unfold evRange
  rw [e1]; simp only []; rw [e2]

theorem extract_cut (s : ByteArray) (a b : Nat) (_ : b ≤ s.data.toList.length) : s.extract a b = ⟨⟨(s.data.toList.take b).drop a⟩⟩ := by
  apply ByteArray.ext
  apply Array.ext'
  simp only [ByteArray.data_extract, Array.toList_extract, List.extract_eq_take_drop]
  rw [List.drop_take]
theorem mk_list (s : ByteArray) : (⟨⟨s.data.toList⟩⟩ : ByteArray) = s := by
  cases s; rfl

theorem wpCutStr_ok {s : ByteArray} {lo hi : Option Int} {l h : Option AV} (hl : (lo = none ∧ l = none) ∨ ∃ i k, lo = some i ∧ l = some (.sc (.int k i))) (hh : (hi = none ∧ h = none) ∨ ∃ i k, hi = some i ∧ h = some (.sc (.int k i)))
    (H : wpCutStr σ s.data.toList lo hi K) : ∃ a b, evRange s.size l h = some (a, b) ∧ K (.v (.sc (.string (s.extract a b)))) σ := by
  have hsz := size_list s
  unfold wpCutStr at H
  split at H
  · split at H
    · refine ⟨_, _, range_of hl hh 0 s.size rfl rfl (by omega) (by omega) (by omega), ?_⟩
      rw [extract_cut _ _ _ (by omega), show ((s.data.toList.take (s.size : Int).toNat).drop (0 : Int).toNat) = s.data.toList from by rw [Int.toNat_natCast, ← hsz, List.take_length]; rfl]
      exact H
    · rename_i a
      obtain ⟨h1, H⟩ := iteP_false H
      simp only [Bool.and_eq_true, decide_eq_true_eq] at h1
      refine ⟨_, _, range_of hl hh a s.size rfl rfl (by omega) (by omega) (by omega), ?_⟩
      rw [extract_cut _ _ _ (by omega), show ((s.data.toList.take (s.size : Int).toNat).drop a.toNat) = s.data.toList.drop a.toNat from by rw [Int.toNat_natCast, ← hsz, List.take_length]]
      exact H
  · rename_i b
    split at H
    · obtain ⟨h1, H⟩ := iteP_false H
      simp only [Bool.and_eq_true, decide_eq_true_eq] at h1
      refine ⟨_, _, range_of hl hh 0 b rfl rfl (by omega) (by omega) (by omega), ?_⟩
      rw [extract_cut _ _ _ (by omega)]
      simpa using H
    · rename_i a
      obtain ⟨h1, H⟩ := iteP_false H
      simp only [Bool.and_eq_true, decide_eq_true_eq] at h1
      refine ⟨_, _, range_of hl hh a b rfl rfl (by omega) (by omega) (by omega), ?_⟩
      rw [extract_cut _ _ _ (by omega)]
      exact H

theorem wpCutSl_ok {els : List (List AV)} {tok : Nat} {lo hi : Option Int} {l h : Option AV} (hl : (lo = none ∧ l = none) ∨ ∃ i k, lo = some i ∧ l = some (.sc (.int k i))) (hh : (hi = none ∧ h = none) ∨ ∃ i k, hi = some i ∧ h = some (.sc (.int k i)))
    (H : wpCutSl σ els tok lo hi K) : ∃ a b, evRange els.length l h = some (a, b) ∧ K (.v (cutS els tok a b)) σ := by
  have key : ∀ a b : Int, a = lo.getD 0 → b = hi.getD els.length → 0 ≤ a → a ≤ b → b ≤ (els.length : Int) → K (.v (cutS els tok a.toNat b.toNat)) σ → ∃ a b, evRange els.length l h = some (a, b) ∧ K (.v (cutS els tok a b)) σ :=
    fun a b h1 h2 h3 h4 h5 h6 => ⟨_, _, range_of hl hh a b h1 h2 h3 h4 h5, h6⟩
  have beqT : ∀ {a b : Nat}, a = b → Nat.beq a b = true := fun e => by subst e; exact Nat.beq_refl _
  have beqF : ∀ {a b : Nat}, a ≠ b → Nat.beq a b = false := fun {a b} e => by
    cases h : Nat.beq a b with
    | false => rfl
    | true => exact absurd (Nat.eq_of_beq_eq_true h) e
  unfold wpCutSl at H
  split at H
  · have c0 : ∀ a b, cutS els 0 a b = .sl ((els.take b).drop a) 0 := fun a b => rfl
    split at H
    · split at H
      · exact key 0 els.length rfl rfl (by omega) (by omega) (by omega) (by rw [c0]; simpa using H)
      · rename_i a
        obtain ⟨h1, H⟩ := iteP_false H
        simp only [Bool.and_eq_true, decide_eq_true_eq] at h1
        exact key a els.length rfl rfl (by omega) (by omega) (by omega) (by rw [c0]; simpa using H)
    · rename_i b
      split at H
      · obtain ⟨h1, H⟩ := iteP_false H
        simp only [Bool.and_eq_true, decide_eq_true_eq] at h1
        exact key 0 b rfl rfl (by omega) (by omega) (by omega) (by rw [c0]; simpa using H)
      · rename_i a
        obtain ⟨h1, H⟩ := iteP_false H
        simp only [Bool.and_eq_true, decide_eq_true_eq] at h1
        exact key a b rfl rfl (by omega) (by omega) (by omega) (by rw [c0]; exact H)
  · rename_i tok
    have c1 : ∀ a b, cutS els (tok + 1) a b = bif Nat.beq b els.length && Nat.beq a 0 then .sl els (tok + 1) else .sl ((els.take b).drop a) 1 := fun a b => rfl
    split at H
    · split at H
      · refine key 0 els.length rfl rfl (by omega) (by omega) (by omega) ?_
        rw [c1, beqT (by simp), beqT (by simp)]
        exact H
      · rename_i a
        obtain ⟨h1, H⟩ := iteP_false H
        simp only [Bool.and_eq_true, decide_eq_true_eq] at h1
        refine key a els.length rfl rfl (by omega) (by omega) (by omega) ?_
        rw [c1, beqT (by simp)]
        rcases iteP_elim H with ⟨h2, H⟩ | ⟨h2, H⟩
        · simp only [decide_eq_true_eq] at h2
          rw [beqT (by omega)]
          exact H
        · simp only [decide_eq_false_iff_not] at h2
          rw [beqF (by omega)]
          simpa using H
    · rename_i b
      split at H
      · obtain ⟨h1, H⟩ := iteP_false H
        simp only [Bool.and_eq_true, decide_eq_true_eq] at h1
        refine key 0 b rfl rfl (by omega) (by omega) (by omega) ?_
        rw [c1]
        rcases iteP_elim H with ⟨h2, H⟩ | ⟨h2, H⟩
        · simp only [decide_eq_true_eq] at h2
          rw [beqT (by omega), beqT (by simp)]
          exact H
        · simp only [decide_eq_false_iff_not] at h2
          rw [beqF (by omega)]
          simpa using H
      · rename_i a
        obtain ⟨h1, H⟩ := iteP_false H
        simp only [Bool.and_eq_true, decide_eq_true_eq] at h1
        refine key a b rfl rfl (by omega) (by omega) (by omega) ?_
        rw [c1]
        rcases iteP_elim H with ⟨h2, H⟩ | ⟨h2, H⟩
        · simp only [Bool.and_eq_true, decide_eq_true_eq] at h2
          rw [beqT (by omega), beqT (by omega)]
          exact H
        · simp only [Bool.and_eq_false_iff, decide_eq_false_iff_not] at h2
          have : (Nat.beq b.toNat els.length && Nat.beq a.toNat 0) = false := by
            rcases h2 with h2 | h2
            · rw [beqF (by omega)]; rfl
            · rw [beqF (a := a.toNat) (by omega), Bool.and_false]
          rw [this]
          exact H

theorem wpSlice_ok {t : TypeId} {x : Operand} {lo hi mx : Option Operand} (H : wpSlice P σ t x lo hi mx K) : ∃ s τ, opSlice P σ t x lo hi mx = some (s, τ) ∧ K s τ := by
  unfold wpSlice at H
  split at H
  · exact H.elim
  · split at H
    · rename_i s hs
      split at H
      · rename_i hu
        split at H
        · rename_i l hl
          split at H
          · rename_i h hh
            have hl := optI_val hl
            have hh := optI_val hh
            have q1 : ∃ lv, optVal σ lo = some lv ∧ ((l = none ∧ lv = none) ∨ ∃ i k, l = some i ∧ lv = some (.sc (.int k i))) := by
              rcases hl with ⟨h1, h2⟩ | ⟨n, k, h1, h2⟩
              · exact ⟨_, h2, .inl ⟨h1, rfl⟩⟩
              · exact ⟨_, h2, .inr ⟨n, k, h1, rfl⟩⟩
            have q2 : ∃ hv, optVal σ hi = some hv ∧ ((h = none ∧ hv = none) ∨ ∃ i k, h = some i ∧ hv = some (.sc (.int k i))) := by
              rcases hh with ⟨h1, h2⟩ | ⟨n, k, h1, h2⟩
              · exact ⟨_, h2, .inl ⟨h1, rfl⟩⟩
              · exact ⟨_, h2, .inr ⟨n, k, h1, rfl⟩⟩
            obtain ⟨lv, e1, r1⟩ := q1
            obtain ⟨hv, e2, r2⟩ := q2
            obtain ⟨a, b, hr, hk⟩ := wpCutStr_ok r1 r2 H
            refine ⟨_, _, ?_, hk⟩
            unfold opSlice
            simp only []
            rw [hs]; simp only []; rw [e1, e2]
            simp only [evSlice, hu, hr]
            rfl
          · exact H.elim
        · exact H.elim
      · exact H.elim
    · rename_i els tok hs
      split at H
      · rename_i k hk
        obtain ⟨hhead, H⟩ := iteP_false H
        split at H
        · rename_i l hl
          split at H
          · rename_i h hh
            have hl := optI_val hl
            have hh := optI_val hh
            have q1 : ∃ lv, optVal σ lo = some lv ∧ ((l = none ∧ lv = none) ∨ ∃ i k, l = some i ∧ lv = some (.sc (.int k i))) := by
              rcases hl with ⟨h1, h2⟩ | ⟨n, k, h1, h2⟩
              · exact ⟨_, h2, .inl ⟨h1, rfl⟩⟩
              · exact ⟨_, h2, .inr ⟨n, k, h1, rfl⟩⟩
            have q2 : ∃ hv, optVal σ hi = some hv ∧ ((h = none ∧ hv = none) ∨ ∃ i k, h = some i ∧ hv = some (.sc (.int k i))) := by
              rcases hh with ⟨h1, h2⟩ | ⟨n, k, h1, h2⟩
              · exact ⟨_, h2, .inl ⟨h1, rfl⟩⟩
              · exact ⟨_, h2, .inr ⟨n, k, h1, rfl⟩⟩
            obtain ⟨lv, e1, r1⟩ := q1
            obtain ⟨hv, e2, r2⟩ := q2
            obtain ⟨a, b, hr, hk'⟩ := wpCutSl_ok r1 r2 H
            refine ⟨_, _, ?_, hk'⟩
            unfold opSlice
            simp only []
            rw [hs]; simp only []; rw [e1, e2]
            simp only [evSlice, hk, hr, hhead]
            rfl
          · exact H.elim
        · exact H.elim
      · exact H.elim
    · exact wpRes_ok H

theorem wpIndexAddr_ok {T : Tab} {f : FuncId} {d : Option Nat} {t : TypeId} {x i : Operand} (H : wpIndexAddr T P f d σ t x i K) : ∃ s τ, opIndexAddr P σ t x i = some (s, τ) ∧ K s τ := by
  unfold wpIndexAddr at H
  cases hex : exactAt T f d with
  | true => rw [hex] at H; exact wpRes_ok H
  | false =>
    rw [hex] at H
    simp only [cond_false] at H
    split at H
    · rename_i els tok hs
      split at H
      · rename_i k n hi
        split at H
        · rename_i e he
          split at H
          · rename_i z hz
            split at H
            · rename_i ks hks
              obtain ⟨h1, H⟩ := cond_prop H
              obtain ⟨h2, h3, h4⟩ := iteP_false H
              refine ⟨_, _, ?_, h4⟩
              unfold opIndexAddr
              rw [hs]; simp only []; rw [hi]; simp only []
              unfold addrSl
              rw [he]; simp only []; rw [hz, idx_of h2]; simp only []; rw [h3]; simp only []
              rw [h1]; rfl
            · exact wpRes_ok H
          · exact H.elim
        · exact H.elim
      · exact H.elim
    · rename_i k off hs
      split at H
      · rename_i k' n hi
        split at H
        · rename_i m e ha
          split at H
          · rename_i z hz
            obtain ⟨j, hj, rfl, h⟩ := wpSel_ok H
            clear H
            split at h
            · rename_i p hp
              refine ⟨_, _, ?_, h⟩
              unfold opIndexAddr
              rw [hs]; simp only []; rw [hi]; simp only []
              unfold addrA
              rw [ha]; simp only []; rw [hz, idx_nat hj]; simp only []
              rw [hp]
            · exact h.elim
          · exact H.elim
        · exact H.elim
      · exact H.elim
    · rename_i g off hs
      split at H
      · rename_i k' n hi
        split at H
        · rename_i m e ha
          split at H
          · rename_i z hz
            obtain ⟨j, hj, rfl, h⟩ := wpSel_ok H
            clear H
            split at h
            · rename_i p hp
              refine ⟨_, _, ?_, h⟩
              unfold opIndexAddr
              rw [hs]; simp only []; rw [hi]; simp only []
              unfold addrA
              rw [ha]; simp only []; rw [hz, idx_nat hj]; simp only []
              rw [hp]
            · exact h.elim
          · exact H.elim
        · exact H.elim
      · exact H.elim
    · exact wpRes_ok H

end
end Go.Ef

/- Symbolic evaluation is sound: the rest of the operations, calls. -/
namespace Go.Ef
open Go

section
variable {P : Program} {C : Cfg} {σ : St} {K : KS}

theorem str_run {P : Program} {op : BinOp} {t : TypeId} {x y : Operand} {a b : ByteArray} {v : Value} (h : pureRun P (Op.stringOp op a b) = some v) (h1 : op ≠ .shl) (h2 : op ≠ .shr) : scOp P (do eqGuard op t x y (.string a) (.string b); binOp op t (.string a) (.string b)) = ofVal 2 v := by
  have e1 : pureRun P (do eqGuard op t x y (.string a) (.string b); binOp op t (.string a) (.string b)) = some v := by
    cases op <;> first | exact absurd rfl h1 | exact absurd rfl h2 | exact h
  unfold scOp
  rw [e1]

theorem wpBin_ok {op : BinOp} {t : TypeId} {x y : Operand} (h : wpBin P σ op t x y K) : ∃ s τ, opBin P σ op t x y = some (s, τ) ∧ K s τ := by
  unfold wpBin at h
  split at h
  · rename_i a ha
    split at h
    · rename_i b hb
      have key : ∀ v r, pureRun P (Op.stringOp op a b) = some v → op ≠ .shl → op ≠ .shr → ofVal 2 v = some (.sc r) → K (.v (.sc r)) σ → ∃ s τ, opBin P σ op t x y = some (s, τ) ∧ K s τ := by
        intro v r hv h1 h2 hr hk
        refine ⟨_, _, ?_, hk⟩
        unfold opBin
        rw [ha]; simp only []; rw [hb]; simp only []
        unfold evBin evBinG
        simp only [toVal]
        rw [str_run hv h1 h2, hr]
        rfl
      have eqd : ∀ l m : List UInt8, (l == m) = decide (l = m) := fun l m => by
        by_cases e : l = m
        · subst e; simp
        · simp [e]
      have heq : (a.toList == b.toList) = decide (a.data.toList = b.data.toList) := by rw [Lib.toList_data, Lib.toList_data, eqd]
      unfold wpBinStr at h
      split at h
      · obtain ⟨h1, h2⟩ := iteP_false h
        have h1 : (a.data.toList.length : Int) + b.data.toList.length ≤ 9223372036854775807 := strFits_iff ▸ h1
        refine key (.string (a ++ b)) (.string (a ++ b)) ?_ (by simp) (by simp) rfl ?_
        · rw [size_list, size_list] at h1
          have : ¬ ((a.size + b.size : Nat) : Int) > IntKind.i64.max := by
            have : IntKind.i64.max = 9223372036854775807 := by decide
            omega
          simp only [Op.stringOp, if_neg this]
          rfl
        · have : (a ++ b : ByteArray) = ⟨⟨a.data.toList ++ b.data.toList⟩⟩ := by
            apply ByteArray.ext
            apply Array.ext'
            simp
          rw [this]; exact h2
      · exact key _ _ rfl (by simp) (by simp) rfl (by rw [heq]; exact h)
      · refine key _ _ rfl (by simp) (by simp) rfl ?_
        have : (!(a.toList == b.toList)) = decide (a.data.toList ≠ b.data.toList) := by rw [heq]; simp
        rw [this]; exact h
      · exact key _ _ rfl (by simp) (by simp) rfl (by rw [Lib.toList_data, Lib.toList_data]; exact h)
      · exact key _ _ rfl (by simp) (by simp) rfl (by rw [heq, Lib.toList_data, Lib.toList_data]; exact h)
      · exact key _ _ rfl (by simp) (by simp) rfl (by rw [heq, Lib.toList_data, Lib.toList_data]; exact h)
      · exact key _ _ rfl (by simp) (by simp) rfl (by rw [Lib.toList_data, Lib.toList_data]; exact h)
      · exact h.elim
    · exact h.elim
  · exact wpRes_ok h

theorem byteD_mapO : ∀ (els : List (List AV)), els.all isByteCell = true → mapO byteOf els = some (els.map byteD) := by
  intro els
  induction els with
  | nil => intro _; rfl
  | cons e els ih =>
    intro h
    simp only [List.all_cons, Bool.and_eq_true] at h
    rw [mapO_cons, ih h.2]
    have : byteOf e = some (byteD e) := by
      have := h.1
      simp only [isByteCell, Bool.and_eq_true] at this
      unfold byteD
      cases hb : byteOf e with
      | none => rw [hb] at this; cases this.2
      | some b => rfl
    rw [this]; rfl

theorem wpConv_ok {s d : TypeId} {x : Operand} (h : wpConv P σ s d x K) : ∃ q τ, opConv P σ s d x = some (q, τ) ∧ K q τ := by
  unfold wpConv at h
  split at h
  · rename_i els tok hx
    split at h
    · rename_i e h1 h2
      split at h
      · rename_i h3
        obtain ⟨h4, h5⟩ := iteP_false h
        refine ⟨_, _, ?_, h5⟩
        have hall : els.all (fun e => Nat.beq e.length 1) = true := by
          rw [List.all_eq_true] at h4 ⊢
          intro e he
          have := h4 e he
          simp only [isByteCell, Bool.and_eq_true] at this
          exact this.1
        unfold opConv
        rw [hx]; simp only []
        unfold evConvert
        rw [h1, h2]; simp only [St.elems, hall, cond_true, isSlice]
        unfold bytesOf
        rw [h3]; simp only []; rw [byteD_mapO els h4]
        rfl
      · exact h.elim
    · exact h.elim
  · rename_i b hx
    split at h
    · rename_i e h1 h2
      split at h
      · rename_i h3
        obtain ⟨h4, h5⟩ := iteP_false h
        refine ⟨_, _, ?_, h5⟩
        unfold opConv
        rw [hx]; simp only []
        unfold evConvert
        rw [h1, h2]; simp only []
        unfold toBytes
        rw [h3]; simp only []
        rw [size_list] at h4
        rw [h4]
        rfl
      · exact h.elim
    · exact wpRes_ok h
  · exact wpRes_ok h

theorem wpElems_ok {k : Nat} {x : AV} {k' : List (List AV) → Prop} (h : wpElems σ k x k') : ∃ els, σ.elems k x = some els ∧ k' els := by
  unfold wpElems at h
  split at h
  · rename_i els tok
    obtain ⟨h1, h2⟩ := iteP_false h
    exact ⟨els, by simp only [St.elems, h1, cond_true], h2⟩
  · rename_i s
    obtain ⟨h1, h2⟩ := cond_prop h
    exact ⟨_, by simp only [St.elems, h1, cond_true], h2⟩
  · split at h
    · exact ⟨_, ‹_›, h⟩
    · exact h.elim

theorem wpAppendO_ok {e : TypeId} {i : TypeInfo} {els : List (List AV)} {tok : Nat} {new : List (List AV)} (h : wpAppendO σ e i els tok new K) : ∃ s τ, appendO σ e i els tok new = some (s, τ) ∧ K s τ := by
  unfold wpAppendO at h
  obtain ⟨h1, h⟩ := iteP_false h
  unfold appendO
  rw [h1]
  simp only [cond_true]
  split at h
  · exact h.elim
  · simp only []
    split at h
    · rename_i k e' n hg
      rw [hg]
      simp only []
      obtain ⟨h2, h⟩ := cond_prop h
      obtain ⟨h3, h⟩ := iteP_false h
      have h3 : els.length = n := by simpa using h3
      rw [h2, show Nat.beq els.length n = true by rw [h3]; exact Nat.beq_refl _]
      simp only [cond_true, Bool.and_self]
      split at h
      · rename_i hh hp
        rw [hp]
        exact ⟨_, _, rfl, h⟩
      · exact h.elim
    · exact h.elim

theorem wpAppendS_ok {f : FuncId} {d : Option Nat} {e : TypeId} {i : TypeInfo} {s : AV} {new : List (List AV)} (h : wpAppendS C σ f d e i s new K) : ∃ q τ, appendS C σ f d e i s new = some (q, τ) ∧ K q τ := by
  unfold wpAppendS at h
  split at h
  · rcases iteP_elim h with ⟨h1, h2⟩ | ⟨h1, h2⟩
    · exact ⟨_, _, by simp only [appendS, h1, cond_true], h2⟩
    · obtain ⟨h3, h4⟩ := iteP_false h2
      exact ⟨_, _, by simp only [appendS, h1, cond_false, appendNil, h3, cond_true], h4⟩
  · rcases iteP_elim h with ⟨h1, h2⟩ | ⟨h1, h2⟩
    · exact ⟨_, _, by simp only [appendS, h1, cond_true], h2⟩
    · obtain ⟨q, τ, h3, h4⟩ := wpAppendO_ok h2
      exact ⟨q, τ, by simp only [appendS, h1, cond_false, h3], h4⟩
  · exact wpRes_ok h

theorem wpAppend_ok {f : FuncId} {d : Option Nat} {types : Array TypeId} {s x : AV} (h : wpAppend C P σ f d types s x K) : ∃ q τ, evAppend C P σ f d types s x = some (q, τ) ∧ K q τ := by
  unfold wpAppend at h
  unfold evAppend
  split at h
  · rename_i t u ht hu
    rw [ht, hu]
    simp only []
    obtain ⟨h1, h⟩ := cond_prop h
    rw [h1]
    simp only [cond_true]
    split at h
    · rename_i e he
      rw [he]
      simp only []
      split at h
      · rename_i i hi
        rw [hi]
        simp only []
        cases hz : Nat.beq i.size 0 with
        | true => rw [hz] at h; exact h.elim
        | false =>
          rw [hz] at h
          simp only [cond_false] at h ⊢
          obtain ⟨new, h2, h⟩ := wpElems_ok h
          rw [h2]
          simp only []
          obtain ⟨h3, h⟩ := iteP_false h
          obtain ⟨h4, h⟩ := cond_prop h
          rw [h3, h4]
          exact wpAppendS_ok h
      · exact h.elim
    · exact h.elim
  · exact h.elim

theorem wpBuiltin_ok {f : FuncId} {d : Option Nat} {b : Builtin} {types : Array TypeId} {type : TypeId} {args : List AV} (h : wpBuiltin C P σ f d b types type args K) : ∃ q τ, evBuiltin C P σ f d b types type args = some (q, τ) ∧ K q τ := by
  unfold wpBuiltin at h
  split at h
  · split at h
    · exact wpAppend_ok h
    · exact h.elim
  · split at h
    · rename_i s
      split at h
      · rename_i t ht
        obtain ⟨h1, h⟩ := cond_prop h
        refine ⟨_, _, ?_, h⟩
        have hu : P.underlying t = some .string := by
          unfold isStringT at h1
          split at h1
          · assumption
          · cases h1
        rw [size_list]
        simp only [evBuiltin, evLen]
        have : pureRun P (Builtin.len_ types type #[.string s]) = some (.int .i64 s.size) := by
          have hun : ∀ k : TypeDesc → Sem Value, pureRun P (underlying t >>= k) = pureRun P (k .string) := by
            intro k
            unfold underlying
            rw [bind_assoc]
            show pureRun P ((match P.underlying t with | some d => pure d | none => stuck "no such type") >>= k) = _
            rw [hu]
            rfl
          simp only [Builtin.len_, ht]
          exact hun _
        rw [this]
        rfl
      · exact h.elim
    · exact wpRes_ok h
  · split at h
    · rename_i k x k' y
      refine ⟨_, _, ?_, h⟩
      have : min x y = if y < x then y else x := by split <;> omega
      rw [this]
      rfl
    · exact wpRes_ok h
  · split at h
    · rename_i k x k' y
      refine ⟨_, _, ?_, h⟩
      have : max x y = if x < y then y else x := by split <;> omega
      rw [this]
      rfl
    · exact wpRes_ok h
  · exact wpRes_ok h

theorem wpStrip_ok : ∀ n v k, wpStrip n v k → ∃ y, stripA n v = some y ∧ (∀ h, strip n h v = some y) ∧ k y := by
  intro n
  induction n with
  | zero =>
    intro v k h
    cases v with
    | sc v => exact ⟨_, rfl, fun _ => rfl, h⟩
    | sl els tok =>
      cases tok with
      | zero => exact ⟨_, rfl, fun _ => rfl, h⟩
      | succ t => exact h.elim
    | _ => exact h.elim
  | succ n ih =>
    have lists : ∀ (cs : List AV) (k : List AV → Prop), List.rec (motive := fun _ => (List AV → Prop) → Prop) (fun k => k []) (fun x _ ihl k => wpStrip n x fun y => ihl fun l => k (y :: l)) cs k →
        ∃ l, mapO (stripA n) cs = some l ∧ (∀ h, mapO (strip n h) cs = some l) ∧ k l := by
      intro cs
      induction cs with
      | nil => intro k h; exact ⟨[], rfl, fun _ => rfl, h⟩
      | cons x cs ihc =>
        intro k h
        obtain ⟨y, h1, h2, h3⟩ := ih x _ h
        obtain ⟨l, h4, h5, h6⟩ := ihc _ h3
        exact ⟨y :: l, by rw [mapO_cons, h1, h4]; rfl, fun hp => by rw [mapO_cons, h2, h5]; rfl, h6⟩
    intro v k h
    cases v with
    | sc v => exact ⟨_, rfl, fun _ => rfl, h⟩
    | sl els tok =>
      cases tok with
      | zero => exact ⟨_, rfl, fun _ => rfl, h⟩
      | succ t =>
        obtain ⟨h1, h2⟩ := iteP_false (show iteP (plainEls els) (k (.sl els 0)) False from h)
        exact ⟨_, by simp only [stripA, h1, cond_true], fun _ => by simp only [strip, h1, cond_true], h2⟩
    | agg cs =>
      obtain ⟨l, h1, h2, h3⟩ := lists cs _ h
      exact ⟨_, by simp only [stripA, h1, Option.map_some], fun hp => by simp only [strip, h2, Option.map_some], h3⟩
    | tup cs =>
      obtain ⟨l, h1, h2, h3⟩ := lists cs _ h
      exact ⟨_, by simp only [stripA, h1, Option.map_some], fun hp => by simp only [strip, h2, Option.map_some], h3⟩
    | ifc t u =>
      obtain ⟨y, h1, h2, h3⟩ := ih u _ h
      exact ⟨_, by simp only [stripA, h1, Option.map_some], fun hp => by simp only [strip, h2, Option.map_some], h3⟩
    | fn f a b =>
      obtain ⟨l, h1, h2, h3⟩ := lists a _ h
      obtain ⟨m, h4, h5, h6⟩ := lists b _ h3
      exact ⟨_, by simp only [stripA, h1, h4], fun hp => by simp only [strip, h2, h5], h6⟩
    | _ => exact h.elim

theorem wpStrips_ok : ∀ (l : List AV) (k : List AV → Prop), wpStrips l k → ∃ m, mapO (stripA 8) l = some m ∧ k m := by
  intro l
  induction l with
  | nil => intro k h; exact ⟨[], rfl, h⟩
  | cons x l ih =>
    intro k h
    obtain ⟨y, h1, _, h3⟩ := wpStrip_ok 8 x _ (show wpStrip 8 x fun y => wpStrips l fun m => k (y :: m) from h)
    obtain ⟨m, h4, h5⟩ := ih _ h3
    exact ⟨y :: m, by rw [mapO_cons, h1, h4]; rfl, h5⟩

theorem wpBack_ok {h : Heap} {r : AV} {k : AV → Prop} (H : wpBack h r k) : ∃ y, strip 8 h r = some y ∧ k y := by
  unfold wpBack at H
  split at H
  · split at H
    · exact ⟨_, ‹_›, H⟩
    · exact H.elim
  · obtain ⟨y, _, h2, h3⟩ := wpStrip_ok 8 _ _ H
    exact ⟨y, h2 h, h3⟩

end
end Go.Ef

/- Symbolic evaluation is sound: calls, regions, code. -/
namespace Go.Ef
open Go
noncomputable section

structure TabOk (P : Program) (C : Cfg) (T : Tab) : Prop where
  call : ∀ g t args h s, T.call g = some t → t args h = some s → s.pre → ∃ a ∈ s.alts, ∃ x m, a.post x ∧ callP C (evCall C P m) g args h = some (a.val x, a.heap x)
  loop : ∀ f i t σ s, T.loop f i = some t → t σ = some s → s.pre → ∃ a ∈ s.alts, ∃ x m, a.post x ∧ evCode C P m f (.loop (loopAt P f i)) σ = some (a.ex, a.st x)

/- It ends so, with some fuel. -/
def Ev (C : Cfg) (P : Program) (f : FuncId) (c : Code) (σ : St) (K : KR) : Prop := ∃ m e τ, evCode C P m f c σ = some (e, τ) ∧ K e τ
def EvC (C : Cfg) (P : Program) (g : FuncId) (args : List AV) (h : Heap) (K : AV → Heap → Prop) : Prop := ∃ m v h', evCall C P m g args h = some (v, h') ∧ K v h'
def EvP (C : Cfg) (P : Program) (g : FuncId) (args : List AV) (h : Heap) (K : AV → Heap → Prop) : Prop := ∃ m v h', callP C (evCall C P m) g args h = some (v, h') ∧ K v h'

section
variable {P : Program} {C : Cfg} {T : Tab}

def RunWOk (P : Program) (C : Cfg) (run : RunW) : Prop := ∀ f c σ K, run f c σ K → Ev C P f c σ K
def CallWOk (P : Program) (C : Cfg) (call : CallW) : Prop := ∀ g args h K, call g args h K → EvC C P g args h K

theorem forceL_eq {f : AV → (AV → Prop) → Prop} (hf : ∀ a k, f a k = k a) : ∀ (l : List AV) (k : List AV → Prop), forceL f l k = k l := by
  intro l
  induction l with
  | nil => intro k; rfl
  | cons x l ih =>
    intro k
    show (f x fun y => forceL f l fun l => k (y :: l)) = _
    rw [hf, ih]
theorem forceA_eq : ∀ n a k, forceA n a k = k a := by
  intro n
  induction n with
  | zero => intro a k; rfl
  | succ n ih =>
    intro a k
    cases a with
    | sc v =>
      cases v <;> rfl
    | agg cs => exact forceL_eq ih cs fun l => k (.agg l)
    | tup cs => exact forceL_eq ih cs fun l => k (.tup l)
    | _ => rfl
theorem forceO_eq (v : Option Slot) (k : Option Slot → Prop) : forceO v k = k v := by
  cases v with
  | none => rfl
  | some s =>
    cases s with
    | v a => exact forceA_eq 2 a fun a => k (some (.v a))
    | lp i j => rfl
    | unk => rfl
theorem forceT_eq : ∀ (t : Tr Slot) (k : Tr Slot → Prop), forceT t k = k t := by
  intro t
  induction t with
  | leaf => intro k; rfl
  | node l v r ihl ihr =>
    intro k
    show (forceT l fun l => forceT r fun r => forceO v fun v => k (.node l v r)) = _
    rw [ihl, ihr, forceO_eq]
theorem forceC_eq : ∀ (l : List LObj) (k : List LObj → Prop), forceC l k = k l := by
  intro l
  induction l with
  | nil => intro k; rfl
  | cons x l ih =>
    intro k
    cases x with
    | cells cs =>
      show (forceL (forceA 1) cs fun cs => forceC l fun l => k (.cells cs :: l)) = _
      rw [forceL_eq (forceA_eq 1), ih]
    | iter s p => exact ih fun l => k (.iter s p :: l)
theorem forceH_eq : ∀ (t : Tr AObj) (k : Tr AObj → Prop), forceH t k = k t := by
  intro t
  induction t with
  | leaf => intro k; rfl
  | node l v r ihl ihr =>
    intro k
    show (forceH l fun l => forceH r fun r => match v with
      | none => k (.node l none r)
      | some o => match o with
        | .cells cs => forceL (forceA 1) cs fun cs => k (.node l (some (.cells cs)) r)
        | o => k (.node l (some o) r)) = _
    rw [ihl, ihr]
    cases v with
    | none => rfl
    | some o =>
      cases o with
      | cells cs => exact forceL_eq (forceA_eq 1) cs fun cs => k (.node l (some (.cells cs)) r)
      | _ => rfl
theorem forceS_eq (σ : St) (k : St → Prop) : forceS σ k = k σ := by
  obtain ⟨n, tm, d, loc, h⟩ := σ
  obtain ⟨nx, objs, ro, ty⟩ := h
  show (forceT tm fun tm => forceC loc fun loc => forceH objs fun objs => k ⟨n, tm, d, loc, ⟨nx, objs, ro, ty⟩⟩) = _
  rw [forceT_eq, forceC_eq, forceH_eq]

theorem wpCAlts_ok {K : AV → Heap → Prop} : ∀ {l : List CAlt}, wpCAlts l K → ∀ a ∈ l, ∀ x, a.post x → K (a.val x) (a.heap x) := by
  intro l
  induction l with
  | nil => intro _ a ha; cases ha
  | cons s r ih =>
    intro h a ha
    cases r with
    | nil =>
      cases ha with
      | head => exact h
      | tail _ h' => cases h'
    | cons u r =>
      cases ha with
      | head => exact h.1
      | tail _ h' => exact ih h.2 a h'
theorem wpLAlts_ok {K : Ex → St → Prop} : ∀ {l : List LAlt}, wpLAlts l K → ∀ a ∈ l, ∀ x, a.post x → K a.ex (a.st x) := by
  intro l
  induction l with
  | nil => intro _ a ha; cases ha
  | cons s r ih =>
    intro h a ha
    cases r with
    | nil =>
      cases ha with
      | head => exact h
      | tail _ h' => cases h'
    | cons u r =>
      cases ha with
      | head => exact h.1
      | tail _ h' => exact ih h.2 a h'

theorem callB_ok {run : RunW} (H : RunWOk P C run) : CallWOk P C (wpCallB C P run) := by
  intro g args h K hw
  unfold wpCallB at hw
  split at hw
  · rename_i fn hf
    split at hw
    · rename_i c hb
      obtain ⟨m, e, τ, h1, h2⟩ := H g c _ _ hw
      split at h2
      · rename_i v h' he
        refine ⟨m, v, h', ?_, h2⟩
        unfold evCall callWith
        rw [hf]; simp only []; rw [hb]; simp only []
        unfold entry at h1
        rw [h1]; exact he
      · exact h2.elim
    · exact hw.elim
  · exact hw.elim

theorem callP_okW {call : CallW} (O : TabOk P C T) (H : CallWOk P C call) {g : FuncId} {args : List AV} {h : Heap} {K : AV → Heap → Prop} (hw : wpCallP T C call g args h K) : EvP C P g args h K := by
  unfold wpCallP at hw
  split at hw
  · rename_i t ht
    split at hw
    · rename_i s hs
      obtain ⟨a, ha, x, m, h1, h2⟩ := O.call g t args h s ht hs hw.1
      exact ⟨m, _, _, h2, wpCAlts_ok hw.2 a ha x h1⟩
    · exact hw.elim
  · split at hw
    · rename_i p hp
      split at hw
      · rename_i v h' he
        exact ⟨0, v, h', by unfold callP; rw [hp]; exact he, hw⟩
      · exact hw.elim
    · rename_i hp
      cases hfr : C.fresh g with
      | true =>
        rw [hfr] at hw
        obtain ⟨args', h1, h2⟩ := wpStrips_ok _ _ hw
        obtain ⟨m, v, h', h3, h4⟩ := H _ _ _ _ h2
        obtain ⟨y, h5, h6⟩ := wpBack_ok h4
        refine ⟨m, y, h, ?_, h6⟩
        unfold callP
        rw [hp]; simp only []; rw [hfr]; simp only [cond_true]; rw [h1]; simp only []; rw [h3]; simp only []; rw [h5]
      | false =>
        rw [hfr] at hw
        simp only [cond_false] at hw
        cases hpu : C.pure g with
        | true =>
          rw [hpu] at hw
          obtain ⟨m, v, h', h3, h4⟩ := H _ _ _ _ hw
          obtain ⟨y, h5, h6⟩ := wpBack_ok h4
          refine ⟨m, y, h, ?_, h6⟩
          unfold callP
          rw [hp]; simp only []; rw [hfr, hpu]; simp only [cond_true, cond_false]; rw [h3]; simp only []; rw [h5]
        | false =>
          rw [hpu] at hw
          obtain ⟨m, v, h', h3, h4⟩ := H _ _ _ _ hw
          refine ⟨m, v, h', ?_, h4⟩
          unfold callP
          rw [hp]; simp only []; rw [hfr, hpu]; exact h3

theorem evP_back {σ : St} {g : FuncId} {args : List AV} {K : KS} (h : EvP C P g args σ.h fun v h => K (.v v) { σ with h := h }) : ∃ m s τ, back σ (callP C (evCall C P m) g args σ.h) = some (s, τ) ∧ K s τ := by
  obtain ⟨m, v, h', h1, h2⟩ := h
  exact ⟨m, _, _, by rw [h1]; rfl, h2⟩

theorem op_okW {call : CallW} (O : TabOk P C T) (H : CallWOk P C call) {f : FuncId} {o : Oper} {σ : St} {K : KS} (hw : wpOp T C P call f o σ K) : ∃ m s τ, evOp C P (evCall C P m) f o σ = some (s, τ) ∧ K s τ := by
  unfold wpOp at hw
  split at hw
  · rename_i ho; obtain ⟨s, τ, h1, h2⟩ := wpIndex_ok hw; exact ⟨0, s, τ, by unfold evOp; rw [ho]; exact h1, h2⟩
  · rename_i ho; obtain ⟨s, τ, h1, h2⟩ := wpSlice_ok hw; exact ⟨0, s, τ, by unfold evOp; rw [ho]; exact h1, h2⟩
  · rename_i ho; obtain ⟨s, τ, h1, h2⟩ := wpIndexAddr_ok hw; exact ⟨0, s, τ, by unfold evOp; rw [ho]; exact h1, h2⟩
  · rename_i ho; obtain ⟨s, τ, h1, h2⟩ := wpBin_ok hw; exact ⟨0, s, τ, by unfold evOp; rw [ho]; exact h1, h2⟩
  · rename_i ho; obtain ⟨s, τ, h1, h2⟩ := wpConv_ok hw; exact ⟨0, s, τ, by unfold evOp; rw [ho]; exact h1, h2⟩
  · rename_i c ho
    unfold wpOpCall at hw
    split at hw
    · exact hw.elim
    · rename_i args hargs
      split at hw
      · rename_i b hb
        obtain ⟨s, τ, h1, h2⟩ := wpBuiltin_ok hw
        exact ⟨0, s, τ, by unfold evOp; rw [ho]; simp only []; unfold opCall; rw [hargs]; simp only []; rw [hb]; exact h1, h2⟩
      · rename_i x hx
        unfold wpCallV at hw
        split at hw
        · rename_i g first cap hv
          obtain ⟨m, s, τ, h1, h2⟩ := evP_back (callP_okW O H hw)
          exact ⟨m, s, τ, by unfold evOp; rw [ho]; simp only []; unfold opCall; rw [hargs]; simp only []; rw [hx]; simp only []; unfold callVal; rw [hv]; exact h1, h2⟩
        · exact hw.elim
      · rename_i x name hx
        unfold wpCallM at hw
        split at hw
        · rename_i t v hv
          split at hw
          · rename_i g r hm
            obtain ⟨m, s, τ, h1, h2⟩ := evP_back (callP_okW O H hw)
            exact ⟨m, s, τ, by unfold evOp; rw [ho]; simp only []; unfold opCall; rw [hargs]; simp only []; rw [hx]; simp only []; unfold callMeth; rw [hv]; simp only []; rw [hm]; exact h1, h2⟩
          · exact hw.elim
        · exact hw.elim
  · obtain ⟨s, τ, h1, h2⟩ := wpRes_ok hw
    exact ⟨0, s, τ, op_le (fun _ _ _ _ h => by cases h) h1, h2⟩

theorem step_okW {call : CallW} (O : TabOk P C T) (H : CallWOk P C call) {f : FuncId} {ops : Array Oper} {o : Oper} {σ : St} {K : St → Prop} (hw : wpStep T C P call f ops o σ K) : ∃ m τ, evStep C P (evCall C P m) f ops o σ = some τ ∧ K τ := by
  unfold wpStep at hw
  split at hw
  · rename_i q hq
    rcases iteP_elim hw with ⟨h1, h2⟩ | ⟨h1, h2⟩
    · obtain ⟨m, s, τ, h3, h4⟩ := op_okW O H h2
      obtain ⟨τ', h5, h6⟩ := wpPutN_ok h4
      refine ⟨m, τ', ?_, h6⟩
      unfold evStep
      rw [hq, h1]; simp only []; rw [h3]; exact h5
    · clear hw
      split at h2
      · rename_i τ hp
        refine ⟨0, τ, ?_, h2⟩
        unfold evStep
        rw [hq, h1]; exact hp
      · exact h2.elim
  · exact hw.elim

theorem ops_okW {call : CallW} (O : TabOk P C T) (H : CallWOk P C call) {f : FuncId} {ops : Array Oper} : ∀ (l : List Oper) (σ : St) (K : St → Prop), wpOpsW T C P call f ops l σ K → ∃ m τ, evOps C P (evCall C P m) f ops l σ = some τ ∧ K τ := by
  intro l
  induction l with
  | nil => intro σ K h; exact ⟨0, σ, rfl, h⟩
  | cons o l ih =>
    intro σ K h
    obtain ⟨m, τ, h1, h2⟩ := step_okW O H (K := fun τ => wpOpsW T C P call f ops l τ K) h
    obtain ⟨m', τ', h3, h4⟩ := ih τ K h2
    refine ⟨max m m', τ', ?_, h4⟩
    rw [evOps_cons, step_le (call_mono (Nat.le_max_left m m')) h1]
    exact ops_le (call_mono (Nat.le_max_right m m')) _ _ _ h3

theorem Ev.region {f : FuncId} {id : Nat} {ops : Array Oper} {draw : Bool} {σ : St} {K : KR} (hd : (draw && C.bad f id) = false) (h : ∃ m τ, evOps C P (evCall C P m) f ops ops.toList σ = some τ ∧ K .normal τ) : Ev C P f (.region id ops draw) σ K := by
  obtain ⟨m, τ, h1, h2⟩ := h
  refine ⟨m + 1, .normal, τ, ?_, h2⟩
  show evReg C P (callWith C P (evCode C P m)) f id ops draw σ = _
  unfold evReg
  rw [hd]; simp only [cond_false]
  show (match evOps C P (evCall C P m) f ops ops.toList σ with | some σ' => some (Ex.normal, σ') | none => none) = _
  rw [h1]

theorem Ev.seq {f : FuncId} {a b : Code} {σ : St} {K : KR} (h : Ev C P f a σ fun e τ => match e with | .normal => Ev C P f b τ K | .exit i => K (.exit i) τ | .ret => K .ret τ) : Ev C P f (.seq a b) σ K := by
  obtain ⟨m, e, τ, h1, h2⟩ := h
  cases e with
  | normal =>
    obtain ⟨m', e', τ', h3, h4⟩ := h2
    refine ⟨max m m' + 1, e', τ', ?_, h4⟩
    show evSeq (evCode C P (max m m') f a σ) (evCode C P (max m m') f b) = _
    rw [code_mono (Nat.le_max_left m m') _ _ _ _ h1]
    exact code_mono (Nat.le_max_right m m') _ _ _ _ h3
  | exit i =>
    refine ⟨m + 1, .exit i, τ, ?_, h2⟩
    show evSeq (evCode C P m f a σ) (evCode C P m f b) = _
    rw [h1]; rfl
  | ret =>
    refine ⟨m + 1, .ret, τ, ?_, h2⟩
    show evSeq (evCode C P m f a σ) (evCode C P m f b) = _
    rw [h1]; rfl

theorem Ev.cond {f : FuncId} {c : Operand} {a b : Code} {σ : St} {K : KR} {t : Bool} (hc : σ.val c = some (.sc (.bool t))) (h : iteP t (Ev C P f a σ K) (Ev C P f b σ K)) : Ev C P f (.cond c a b) σ K := by
  cases t with
  | true =>
    obtain ⟨m, e, τ, h1, h2⟩ := h
    refine ⟨m + 1, e, τ, ?_, h2⟩
    show evCond σ c (evCode C P m f a σ) (evCode C P m f b σ) = _
    unfold evCond; rw [hc]; exact h1
  | false =>
    obtain ⟨m, e, τ, h1, h2⟩ := h
    refine ⟨m + 1, e, τ, ?_, h2⟩
    show evCond σ c (evCode C P m f a σ) (evCode C P m f b σ) = _
    unfold evCond; rw [hc]; exact h1

theorem Ev.block {f : FuncId} {id : Nat} {b : Code} {σ : St} {K : KR} (h : Ev C P f b σ fun e τ => match e with | .normal => K .normal τ | .exit i => bif Nat.beq i id then K .normal τ else K (.exit i) τ | .ret => K .ret τ) : Ev C P f (.block id b) σ K := by
  obtain ⟨m, e, τ, h1, h2⟩ := h
  cases e with
  | normal => exact ⟨m + 1, .normal, τ, by show evBlk id (evCode C P m f b σ) = _; rw [h1]; rfl, h2⟩
  | ret => exact ⟨m + 1, .ret, τ, by show evBlk id (evCode C P m f b σ) = _; rw [h1]; rfl, h2⟩
  | exit i =>
    cases hq : Nat.beq i id with
    | true =>
      simp only [hq, cond_true] at h2
      exact ⟨m + 1, .normal, τ, by show evBlk id (evCode C P m f b σ) = _; rw [h1]; simp only [evBlk, hq, cond_true], h2⟩
    | false =>
      simp only [hq, cond_false] at h2
      exact ⟨m + 1, .exit i, τ, by show evBlk id (evCode C P m f b σ) = _; rw [h1]; simp only [evBlk, hq, cond_false], h2⟩

theorem Ev.loop {f : FuncId} {b : Code} {σ : St} {K : KR} (ht : C.tidy f (firstId 8 b) = none) (h : Ev C P f b σ fun e τ => match e with | .normal => Ev C P f (.loop b) τ K | .exit i => K (.exit i) τ | .ret => K .ret τ) : Ev C P f (.loop b) σ K := by
  obtain ⟨m, e, τ, h1, h2⟩ := h
  have key : ∀ m, evCode C P (m + 1) f (.loop b) σ = evSeq (evCode C P m f b σ) (evCode C P m f (.loop b)) := by
    intro m
    show (match C.tidy f (firstId 8 b) with | none => _ | some t => _) = _
    rw [ht]; rfl
  cases e with
  | normal =>
    obtain ⟨m', e', τ', h3, h4⟩ := h2
    refine ⟨max m m' + 1, e', τ', ?_, h4⟩
    rw [key, code_mono (Nat.le_max_left m m') _ _ _ _ h1]
    exact code_mono (Nat.le_max_right m m') _ _ _ _ h3
  | exit i => exact ⟨m + 1, .exit i, τ, by rw [key, h1]; rfl, h2⟩
  | ret => exact ⟨m + 1, .ret, τ, by rw [key, h1]; rfl, h2⟩

theorem Ev.loopT {f : FuncId} {b : Code} {σ : St} {K : KR} {t : Tidy} (ht : C.tidy f (firstId 8 b) = some t) (h : Ev C P f b (σ.tidy t.head t.nloc) fun e τ => match e with | .normal => Ev C P f (.loop b) τ K | .exit i => K (.exit i) (τ.tidy t.exit t.nloc) | .ret => K .ret (τ.tidy t.exit t.nloc)) : Ev C P f (.loop b) σ K := by
  obtain ⟨m, e, τ, h1, h2⟩ := h
  have key : ∀ m, evCode C P (m + 1) f (.loop b) σ = evLoop t (evCode C P m f b (σ.tidy t.head t.nloc)) (evCode C P m f (.loop b)) := by
    intro m
    show (match C.tidy f (firstId 8 b) with | none => _ | some t => _) = _
    rw [ht]; rfl
  cases e with
  | normal =>
    obtain ⟨m', e', τ', h3, h4⟩ := h2
    refine ⟨max m m' + 1, e', τ', ?_, h4⟩
    rw [key, code_mono (Nat.le_max_left m m') _ _ _ _ h1]
    exact code_mono (Nat.le_max_right m m') _ _ _ _ h3
  | exit i => exact ⟨m + 1, _, _, by rw [key, h1]; rfl, h2⟩
  | ret => exact ⟨m + 1, _, _, by rw [key, h1]; rfl, h2⟩

theorem Ev.mono {f : FuncId} {c : Code} {σ : St} {K K' : KR} (h : Ev C P f c σ K) (hk : ∀ e τ, K e τ → K' e τ) : Ev C P f c σ K' := by
  obtain ⟨m, e, τ, h1, h2⟩ := h
  exact ⟨m, e, τ, h1, hk e τ h2⟩

theorem code1_okW {run : RunW} (O : TabOk P C T) (H : RunWOk P C run) : RunWOk P C (wpCode1 T C P run) := by
  intro f c σ K hw
  cases c with
  | skip => exact ⟨1, _, _, rfl, hw⟩
  | region id ops draw =>
    replace hw : bif draw && C.bad f id then False else wpOpsW T C P (wpCallB C P run) f ops ops.toList σ fun τ => forceS τ fun τ => K .normal τ := hw
    simp only [forceS_eq] at hw
    cases hd : draw && C.bad f id with
    | true => rw [hd] at hw; exact hw.elim
    | false => rw [hd] at hw; exact Ev.region hd (ops_okW O (callB_ok H) _ _ _ hw)
  | seq a b =>
    refine Ev.seq ((H f a σ _ hw).mono fun e τ h => ?_)
    cases e with
    | normal => exact H f b τ K h
    | exit i => exact h
    | ret => exact h
  | cond k a b =>
    simp only [wpCode1] at hw
    split at hw
    · rename_i t ht
      refine Ev.cond ht ?_
      cases t with
      | true => exact H f a σ K hw
      | false => exact H f b σ K hw
    · exact hw.elim
  | block id b => exact Ev.block (H f b σ _ hw)
  | loop b =>
    simp only [wpCode1] at hw
    split at hw
    · rename_i t ht
      split at hw
      · rename_i s hs
        obtain ⟨h1, h2, h3⟩ := hw
        obtain ⟨a, ha, x, m, h4, h5⟩ := O.loop _ _ _ _ _ ht hs h2
        rw [h1] at h5
        exact ⟨m, _, _, h5, wpLAlts_ok h3 a ha x h4⟩
      · exact hw.elim
    · split at hw
      · rename_i ht
        refine Ev.loop ht ((H f b σ _ hw).mono fun e τ h => ?_)
        cases e with
        | normal => exact H f (.loop b) τ K h
        | exit i => exact h
        | ret => exact h
      · rename_i t ht
        refine Ev.loopT ht ((H f b _ _ hw).mono fun e τ h => ?_)
        cases e with
        | normal => exact H f (.loop b) τ K h
        | exit i => exact h
        | ret => exact h
  | exit id => exact ⟨1, _, _, rfl, hw⟩
  | ret => exact ⟨1, _, _, rfl, hw⟩
  | scope b =>
    obtain ⟨m, e, τ, h1, h2⟩ := H f b σ K hw
    exact ⟨m + 1, e, τ, h1, h2⟩
  | label l => exact ⟨1, _, _, rfl, hw⟩
  | _ => exact hw.elim

theorem code_okW (O : TabOk P C T) : ∀ n, RunWOk P C (wpCode T C P n) := by
  intro n
  induction n with
  | zero => intro f c σ K h; exact h.elim
  | succ n ih => exact code1_okW O ih
theorem call_okW (O : TabOk P C T) (n : Nat) : CallWOk P C (wpCall T C P n) := callB_ok (code_okW O n)
theorem wpP_ok (O : TabOk P C T) (n : Nat) {g : FuncId} {args : List AV} {h : Heap} {K : AV → Heap → Prop} (hw : wpCallP T C (wpCall T C P n) g args h K) : EvP C P g args h K := callP_okW O (call_okW O n) hw

end
end
end Go.Ef

/- Symbolic evaluation: loops. -/
namespace Go.Ef
open Go
noncomputable section

def sStr (l : List UInt8) : Slot := .v (.sc (.string ⟨⟨l⟩⟩))
def sInt (n : Int) : Slot := .v (.sc (.int .i64 n))
def sK (k : IntKind) (n : Int) : Slot := .v (.sc (.int k n))
def sBool (b : Bool) : Slot := .v (.sc (.bool b))
def aStr (l : List UInt8) : AV := .sc (.string ⟨⟨l⟩⟩)
def aK (k : IntKind) (n : Int) : AV := .sc (.int k n)
def aBool (b : Bool) : AV := .sc (.bool b)
def stOf (n : Nat) (l : List (Nat × Slot)) (loc : List LObj) (h : Heap) : St :=
  { n := n, tm := List.rec (motive := fun _ => Tr Slot) .leaf (fun p _ ih => ih.set p.1 p.2) l, d := .unk, loc := loc, h := h }
/- What a slot holds. -/
def slI (σ : St) (t : Nat) : Int :=
  match σ.at t with
  | .v (.sc (.int _ n)) => n
  | _ => 0
def slS (σ : St) (t : Nat) : List UInt8 :=
  match σ.at t with
  | .v (.sc (.string s)) => s.data.toList
  | _ => []
def slB (σ : St) (t : Nat) : Bool :=
  match σ.at t with
  | .v (.sc (.bool b)) => b
  | _ => false
def slEls (σ : St) (t : Nat) : List (List AV) :=
  match σ.at t with
  | .v (.sl e _) => e
  | _ => []
def lcI (σ : St) (k j : Nat) : Int :=
  match getI k σ.loc with
  | some (.cells cs) => match getI j cs with
    | some (.sc (.int _ n)) => n
    | _ => 0
  | _ => 0
def lcB (σ : St) (k j : Nat) : Bool :=
  match getI k σ.loc with
  | some (.cells cs) => match getI j cs with
    | some (.sc (.bool n)) => n
    | _ => false
  | _ => false
def lcS (σ : St) (k j : Nat) : List UInt8 :=
  match getI k σ.loc with
  | some (.cells cs) => match getI j cs with
    | some (.sc (.string s)) => s.data.toList
    | _ => []
  | _ => []

/- One round of a loop. -/
def wpRound (T : Tab) (C : Cfg) (P : Program) (n : Nat) (f i : Nat) (σ : St) (N : St → Prop) (X : Ex → St → Prop) : Prop :=
  match C.tidy f i with
  | some t => wpCode T C P n f (loopAt P f i) σ fun e τ => match e with
    | .normal => N (τ.tidy t.head t.nloc)
    | .exit j => X (.exit j) (τ.tidy t.exit t.nloc)
    | .ret => X .ret (τ.tidy t.exit t.nloc)
  | none => False

theorem keep_keep (m : Nat) (s : Slot) : (s.keep m).keep m = s.keep m := by
  cases s with
  | lp k off =>
    simp only [Slot.keep]
    cases h : Nat.blt k m with
    | true => simp only [cond_true, h]
    | false => rfl
  | v a => rfl
  | unk => rfl
theorem keepTm_congr {σ τ : St} {m : Nat} : ∀ {l : List Nat}, (∀ t ∈ l, (σ.at t).keep m = (τ.at t).keep m) → keepTm σ m l = keepTm τ m l := by
  intro l
  induction l with
  | nil => intro _; rfl
  | cons x l ih =>
    intro h
    show (keepTm σ m l).set x ((σ.at x).keep m) = (keepTm τ m l).set x ((τ.at x).keep m)
    rw [ih fun t ht => h t (by simp [ht]), h x (by simp)]
theorem tidy_at (σ : St) (l : List Nat) (m t : Nat) (h : t ∈ l) : (σ.tidy l m).at t = (σ.at t).keep m := by
  show (match (keepTm σ m l).get t with | some s => s | none => Slot.unk) = _
  rw [keepTm_get, if_pos h]
theorem tidy_tidy (σ : St) (l : List Nat) (m : Nat) : (σ.tidy l m).tidy l m = σ.tidy l m := by
  have h1 : keepTm (σ.tidy l m) m l = keepTm σ m l := keepTm_congr fun t ht => by rw [tidy_at σ l m t ht, keep_keep]
  have h2 : (σ.loc.take m).take m = σ.loc.take m := by rw [List.take_take, Nat.min_self]
  show ({ n := σ.n, tm := keepTm (σ.tidy l m) m l, d := .unk, loc := (σ.loc.take m).take m, h := σ.h } : St) = _
  rw [h1, h2]
  rfl

section
variable {P : Program} {C : Cfg} {T : Tab}

theorem Ev.tidied {f : FuncId} {b : Code} {σ τ : St} {K : KR} {t : Tidy} (ht : C.tidy f (firstId 8 b) = some t) (hs : σ.tidy t.head t.nloc = τ.tidy t.head t.nloc) (h : Ev C P f (.loop b) τ K) : Ev C P f (.loop b) σ K := by
  obtain ⟨m, e, τ', h1, h2⟩ := h
  cases m with
  | zero => cases h1
  | succ m =>
    have key : ∀ σ, evCode C P (m + 1) f (.loop b) σ = evLoop t (evCode C P m f b (σ.tidy t.head t.nloc)) (evCode C P m f (.loop b)) := by
      intro σ
      show (match C.tidy f (firstId 8 b) with | none => _ | some t => _) = _
      rw [ht]; rfl
    refine ⟨m + 1, e, τ', ?_, h2⟩
    rw [key, hs, ← key]
    exact h1

/- A loop by induction: what holds at its head, and a measure. -/
theorem loop_ind (O : TabOk P C T) {α : Type} {f i n : Nat} {I : α → St} {Inv : α → Prop} {mea : α → Nat} {K : KR} (hi : firstId 8 (loopAt P f i) = i)
    (step : ∀ x, Inv x → wpRound T C P n f i (I x) (fun τ => ∃ y, τ = I y ∧ Inv y ∧ mea y < mea x) K) (hcan : ∀ x, ∀ t, C.tidy f i = some t → (I x).tidy t.head t.nloc = I x) :
    ∀ x, Inv x → Ev C P f (.loop (loopAt P f i)) (I x) K := by
  have main : ∀ N x, mea x < N → Inv x → Ev C P f (.loop (loopAt P f i)) (I x) K := by
    intro N
    induction N with
    | zero => intro x h; omega
    | succ N ih =>
      intro x hx hv
      have hs := step x hv
      unfold wpRound at hs
      split at hs
      · rename_i t ht
        refine Ev.loopT (t := t) (by rw [hi]; exact ht) ?_
        rw [hcan x t ht]
        refine (code_okW O n f _ _ _ hs).mono fun e τ h => ?_
        cases e with
        | normal =>
          obtain ⟨y, h1, h2, h3⟩ := h
          refine Ev.tidied (t := t) (τ := I y) (by rw [hi]; exact ht) ?_ (ih y (by omega) h2)
          rw [h1, hcan y t ht]
        | exit j => exact h
        | ret => exact h
      · exact hs.elim
  intro x h
  exact main (mea x + 1) x (by omega) h

theorem loop_rd (O : TabOk P C T) {α : Type} {f i n : Nat} (I : α → St) (rd : St → α) (Inv : α → Prop) (mea : α → Nat) {K : KR} (hi : firstId 8 (loopAt P f i) = i)
    (hcan : ∀ x, ∀ t, C.tidy f i = some t → (I x).tidy t.head t.nloc = I x)
    (step : ∀ x, Inv x → wpRound T C P n f i (I x) (fun τ => τ = I (rd τ) ∧ Inv (rd τ) ∧ mea (rd τ) < mea x) K) :
    ∀ x, Inv x → Ev C P f (.loop (loopAt P f i)) (I x) K := by
  have main : ∀ N x, mea x < N → Inv x → Ev C P f (.loop (loopAt P f i)) (I x) K := by
    intro N
    induction N with
    | zero => intro x h; omega
    | succ N ih =>
      intro x hx hv
      have hs := step x hv
      unfold wpRound at hs
      split at hs
      · rename_i t ht
        refine Ev.loopT (t := t) (by rw [hi]; exact ht) ?_
        rw [hcan x t ht]
        refine (code_okW O n f _ _ _ hs).mono fun e τ h => ?_
        cases e with
        | normal =>
          obtain ⟨h1, h2, h3⟩ := h
          refine Ev.tidied (t := t) (τ := I (rd (τ.tidy t.head t.nloc))) (by rw [hi]; exact ht) ?_ (ih _ (by omega) h2)
          rw [← h1, tidy_tidy]
        | exit j => exact h
        | ret => exact h
      · exact hs.elim
  intro x h
  exact main (mea x + 1) x (by omega) h

theorem wpCode_mono {K K' : KR} (O : TabOk P C T) {n f : Nat} {c : Code} {σ : St} (h : wpCode T C P n f c σ K) (hk : ∀ e τ, K e τ → K' e τ) : Ev C P f c σ K' := (code_okW O n f c σ K h).mono hk

/- The body of a call. -/
theorem fresh_okW (O : TabOk P C T) {n g : Nat} {args args' : List AV} {h : Heap} {v : AV} (hf : C.fresh g = true) (hp : C.prim g = none) (ha : mapO (stripA 8) args = some args')
    (hw : wpCall T C P n g args' heapF fun r h' => wpBack h' r fun y => y = v) : ∃ m, callP C (evCall C P m) g args h = some (v, h) := by
  obtain ⟨m, r, h', h1, h2⟩ := call_okW O n g args' heapF _ hw
  obtain ⟨y, h3, rfl⟩ := wpBack_ok h2
  refine ⟨m, ?_⟩
  unfold callP
  rw [hp]; simp only []; rw [hf]; simp only [cond_true]; rw [ha]; simp only []; rw [h1]; simp only []; rw [h3]

end
end
end Go.Ef

/- Symbolic evaluation: plain facts for the conditions. -/
namespace Go.Ef
open Go

theorem iteP_F {q : Bool} {A : Prop} : iteP q A False = (q = true ∧ A) := by
  cases q
  · exact propext ⟨fun h => h.elim, fun h => by cases h.1⟩
  · exact propext ⟨fun h => ⟨rfl, h⟩, fun h => h.2⟩
theorem iteP_iff {q : Bool} {A B : Prop} : iteP q A B = ((q = true → A) ∧ (q = false → B)) := by
  cases q
  · exact propext ⟨fun h => ⟨(fun e => by cases e), fun _ => h⟩, fun h => h.2 rfl⟩
  · exact propext ⟨fun h => ⟨fun _ => h, (fun e => by cases e)⟩, fun h => h.1 rfl⟩
theorem iteP_t {A B : Prop} : iteP true A B = A := rfl
theorem iteP_f {A B : Prop} : iteP false A B = B := rfl
theorem inRange_iff {n : Int} {m : Nat} : (inRange n m = true) = (0 ≤ n ∧ n < (m : Int)) := by
  simp [inRange]
theorem wrap64 (x : Int) : IntKind.i64.wrap x = (x + 9223372036854775808) % 18446744073709551616 - 9223372036854775808 := by
  have e : IntKind.i64.bits = 64 := rfl
  have g : IntKind.i64.signed = true := rfl
  have e1 : (2 : Int) ^ 64 = 18446744073709551616 := by decide
  have e2 : (2 : Int) ^ (64 - 1) = 9223372036854775808 := by decide
  simp only [IntKind.wrap, e, g, e1, e2, Bool.true_and, decide_eq_true_eq]
  by_cases h : x % 18446744073709551616 ≥ 9223372036854775808
  · rw [if_pos h]; omega
  · rw [if_neg h]; omega
theorem wrap_in {x : Int} (h1 : -9223372036854775808 ≤ x) (h2 : x ≤ 9223372036854775807) : IntKind.i64.wrap x = x := by rw [wrap64]; omega
theorem wrap8 (x : Int) : IntKind.u8.wrap x = x % 256 := by
  have e : IntKind.u8.bits = 8 := rfl
  have g : IntKind.u8.signed = false := rfl
  have e1 : (2 : Int) ^ 8 = 256 := by decide
  simp only [IntKind.wrap, e, g, e1, Bool.false_and, Bool.false_eq_true, if_false]
theorem wrap8_in {x : Int} (h1 : 0 ≤ x) (h2 : x ≤ 255) : IntKind.u8.wrap x = x := by rw [wrap8]; omega
theorem wrap32 (x : Int) : IntKind.i32.wrap x = (x + 2147483648) % 4294967296 - 2147483648 := by
  have e : IntKind.i32.bits = 32 := rfl
  have g : IntKind.i32.signed = true := rfl
  have e1 : (2 : Int) ^ 32 = 4294967296 := by decide
  have e2 : (2 : Int) ^ (32 - 1) = 2147483648 := by decide
  simp only [IntKind.wrap, e, g, e1, e2, Bool.true_and, decide_eq_true_eq]
  by_cases h : x % 4294967296 ≥ 2147483648
  · rw [if_pos h]; omega
  · rw [if_neg h]; omega
theorem wrapU64 (x : Int) : IntKind.u64.wrap x = x % 18446744073709551616 := by
  have e : IntKind.u64.bits = 64 := rfl
  have g : IntKind.u64.signed = false := rfl
  have e1 : (2 : Int) ^ 64 = 18446744073709551616 := by decide
  simp only [IntKind.wrap, e, g, e1, Bool.false_and, Bool.false_eq_true, if_false]

theorem ite_max (a b : Int) : (if a < b then b else a) = max a b := by split <;> omega
theorem ite_min (a b : Int) : (if b < a then b else a) = min a b := by split <;> omega

theorem byteAt_le (l : List UInt8) (k : Int) : 0 ≤ byteAt l k ∧ byteAt l k ≤ 255 := by
  unfold byteAt
  have := ((l[k.toNat]?).getD 0).toNat_lt
  omega
theorem byteAt_drop {l r : List UInt8} {k : Int} {c : UInt8} (h : l.drop k.toNat = c :: r) : byteAt l k = c.toNat ∧ k.toNat < l.length ∧ l.drop (k.toNat + 1) = r := by
  have h1 : k.toNat < l.length := by
    rcases Nat.lt_or_ge k.toNat l.length with h' | h'
    · exact h'
    · rw [List.drop_eq_nil_of_le h'] at h; cases h
  have h2 := List.drop_eq_getElem_cons h1
  rw [h2] at h
  cases h
  refine ⟨?_, h1, rfl⟩
  unfold byteAt
  rw [List.getElem?_eq_getElem h1]; rfl
theorem drop_end {l : List UInt8} {k : Int} (h : l.drop k.toNat = []) : l.length ≤ k.toNat := by
  have := congrArg List.length h
  simp at this
  omega
theorem toNat_succ {k : Int} (h : 0 ≤ k) : (k + 1).toNat = k.toNat + 1 := by omega
theorem u8_le {a b : UInt8} : (a ≤ b) = ((a.toNat : Int) ≤ b.toNat) := by
  rw [UInt8.le_iff_toNat_le]; simp
theorem u8_eq {a b : UInt8} : (a = b) = ((a.toNat : Int) = b.toNat) := by
  apply propext
  constructor
  · intro h; rw [h]
  · intro h; exact UInt8.toNat_inj.1 (by omega)

end Go.Ef

/- Symbolic evaluation: tables, entry by entry. -/
namespace Go.Ef
open Go
noncomputable section

def tab0 : Tab := { call := fun _ => none, loop := fun _ _ => none, exact := fun _ _ => false, named := fun _ _ => false }
def Tab.addC (T : Tab) (g : FuncId) (t : List AV → Heap → Option CSpec) : Tab := { T with call := fun x => bif Nat.beq x g then some t else T.call x }
def Tab.addL (T : Tab) (f i : Nat) (t : St → Option LSpec) : Tab := { T with loop := fun x y => bif Nat.beq x f && Nat.beq y i then some t else T.loop x y }
def Tab.name (T : Tab) (f t : Nat) : Tab := { T with named := fun x y => bif Nat.beq x f && Nat.beq y t then true else T.named x y }
def fspec (pre : Prop) (v : AV) (h : Heap) : CSpec := { pre := pre, alts := [{ α := Unit, post := fun _ => True, val := fun _ => v, heap := fun _ => h }] }
def nspec {α : Type} (pre : Prop) (r : α) (val : α → AV) (h : Heap) : CSpec := { pre := pre, alts := [{ α := α, post := fun x => x = r, val := val, heap := fun _ => h }] }
def lspec (pre : Prop) (α : Type) (post : α → Prop) (ex : Ex) (st : α → St) : LSpec := { pre := pre, alts := [{ α := α, post := post, ex := ex, st := st }] }

section
variable {P : Program} {C : Cfg} {T : Tab}
theorem tab0_ok : TabOk P C tab0 := ⟨fun _ _ _ _ _ ht => (by cases ht), fun _ _ _ _ _ ht => (by cases ht)⟩
theorem addC_ok (O : TabOk P C T) {g : FuncId} {t : List AV → Heap → Option CSpec} (H : ∀ args h s, t args h = some s → s.pre → ∃ a ∈ s.alts, ∃ x m, a.post x ∧ callP C (evCall C P m) g args h = some (a.val x, a.heap x)) : TabOk P C (T.addC g t) := by
  refine ⟨fun x t' args h s ht hs hp => ?_, fun f i t' σ s ht => O.loop f i t' σ s ht⟩
  replace ht : (bif Nat.beq x g then some t else T.call x) = some t' := ht
  cases hq : Nat.beq x g with
  | true =>
    rw [hq] at ht
    cases ht
    rw [Nat.eq_of_beq_eq_true hq]
    exact H args h s hs hp
  | false =>
    rw [hq] at ht
    exact O.call x t' args h s ht hs hp
theorem addL_ok (O : TabOk P C T) {f i : Nat} {t : St → Option LSpec} (H : ∀ σ s, t σ = some s → s.pre → ∃ a ∈ s.alts, ∃ x, a.post x ∧ ∃ m, evCode C P m f (.loop (loopAt P f i)) σ = some (a.ex, a.st x)) : TabOk P C (T.addL f i t) := by
  refine ⟨fun g t' args h s ht => O.call g t' args h s ht, fun x y t' σ s ht hs hp => ?_⟩
  replace ht : (bif Nat.beq x f && Nat.beq y i then some t else T.loop x y) = some t' := ht
  cases hq : Nat.beq x f && Nat.beq y i with
  | true =>
    rw [hq] at ht
    simp only [Bool.and_eq_true] at hq
    cases ht
    rw [Nat.eq_of_beq_eq_true hq.1, Nat.eq_of_beq_eq_true hq.2]
    obtain ⟨a, ha, x, h1, m, h2⟩ := H σ s hs hp
    exact ⟨a, ha, x, m, h1, h2⟩
  | false =>
    rw [hq] at ht
    exact O.loop x y t' σ s ht hs hp

theorem name_ok (O : TabOk P C T) (f t : Nat) : TabOk P C (T.name f t) := ⟨O.call, O.loop⟩

/- A call whose value is a function of the arguments. -/
theorem nspec_ok {g : FuncId} {args : List AV} {h : Heap} {α : Type} {pre : Prop} {r : α} {val : α → AV} {s : CSpec} (hs : nspec pre r val h = s) (H : pre → EvP C P g args h fun v h' => v = val r ∧ h' = h) (hp : s.pre) :
    ∃ a ∈ s.alts, ∃ x m, a.post x ∧ callP C (evCall C P m) g args h = some (a.val x, a.heap x) := by
  subst hs
  obtain ⟨m, v, h', h1, rfl, rfl⟩ := H hp
  exact ⟨_, List.mem_singleton.2 rfl, r, m, rfl, h1⟩
theorem lspec_ok {f : FuncId} {b : Code} {σ : St} {α : Type} {pre : Prop} {post : α → Prop} {ex : Ex} {st : α → St} {s : LSpec} (hs : lspec pre α post ex st = s) (H : pre → Ev C P f (.loop b) σ fun e τ => ∃ x, post x ∧ e = ex ∧ τ = st x) (hp : s.pre) :
    ∃ a ∈ s.alts, ∃ x, a.post x ∧ ∃ m, evCode C P m f (.loop b) σ = some (a.ex, a.st x) := by
  subst hs
  obtain ⟨m, e, τ, h1, x, h2, rfl, rfl⟩ := H hp
  exact ⟨_, List.mem_singleton.2 rfl, x, h2, m, h1⟩

theorem wpStrip_mono : ∀ n v {k k' : AV → Prop}, wpStrip n v k → (∀ y, k y → k' y) → wpStrip n v k' := by
  intro n
  induction n with
  | zero =>
    intro v k k' h hk
    cases v with
    | sc v => exact hk _ h
    | sl els tok =>
      cases tok with
      | zero => exact hk _ h
      | succ t => exact h.elim
    | _ => exact h.elim
  | succ n ih =>
    have lists : ∀ (cs : List AV) {k k' : List AV → Prop}, List.rec (motive := fun _ => (List AV → Prop) → Prop) (fun k => k []) (fun x _ ihl k => wpStrip n x fun y => ihl fun l => k (y :: l)) cs k → (∀ y, k y → k' y) →
        List.rec (motive := fun _ => (List AV → Prop) → Prop) (fun k => k []) (fun x _ ihl k => wpStrip n x fun y => ihl fun l => k (y :: l)) cs k' := by
      intro cs
      induction cs with
      | nil => intro k k' h hk; exact hk _ h
      | cons x cs ihc => intro k k' h hk; exact ih x h fun y hy => ihc hy fun l hl => hk _ hl
    intro v k k' h hk
    cases v with
    | sc v => exact hk _ h
    | sl els tok =>
      cases tok with
      | zero => exact hk _ h
      | succ t =>
        obtain ⟨h1, h2⟩ := iteP_false (show iteP (plainEls els) (k (.sl els 0)) False from h)
        show iteP (plainEls els) (k' (.sl els 0)) False
        rw [h1]; exact hk _ h2
    | agg cs => exact lists cs h fun l hl => hk _ hl
    | tup cs => exact lists cs h fun l hl => hk _ hl
    | ifc t u => exact ih u h fun y hy => hk _ hy
    | fn f a b => exact lists a h fun l hl => lists b hl fun m hm => hk _ hm
    | _ => exact h.elim
theorem wpBack_mono {h : Heap} {r : AV} {k k' : AV → Prop} (H : wpBack h r k) (hk : ∀ y, k y → k' y) : wpBack h r k' := by
  cases r with
  | rsl id off len m =>
    replace H : (match strip 8 h (.rsl id off len m) with | some y => k y | none => False) := H
    show (match strip 8 h (.rsl id off len m) with | some y => k' y | none => False)
    split at H
    · exact hk _ H
    · exact H.elim
  | sl els tok => exact wpStrip_mono 8 (.sl els tok) H hk
  | sc v => exact wpStrip_mono 8 (.sc v) H hk
  | agg v => exact wpStrip_mono 8 (.agg v) H hk
  | tup v => exact wpStrip_mono 8 (.tup v) H hk
  | fn f a b => exact wpStrip_mono 8 (.fn f a b) H hk
  | ifc t v => exact wpStrip_mono 8 (.ifc t v) H hk
  | cp v => exact wpStrip_mono 8 (.cp v) H hk
  | gp g o => exact wpStrip_mono 8 (.gp g o) H hk
  | ptr g o => exact wpStrip_mono 8 (.ptr g o) H hk
  | mp g => exact wpStrip_mono 8 (.mp g) H hk

theorem EvP.fresh {g : FuncId} {args args' : List AV} {h : Heap} {K : AV → Heap → Prop} (hf : C.fresh g = true) (hp : C.prim g = none) (ha : mapO (stripA 8) args = some args')
    (H : EvC C P g args' heapF fun r h' => wpBack h' r fun y => K y h) : EvP C P g args h K := by
  obtain ⟨m, r, h', h1, h2⟩ := H
  obtain ⟨y, h3, h4⟩ := wpBack_ok h2
  refine ⟨m, y, h, ?_, h4⟩
  unfold callP
  rw [hp]; simp only []; rw [hf]; simp only [cond_true]; rw [ha]; simp only []; rw [h1]; simp only []; rw [h3]
theorem EvP.freshW (O : TabOk P C T) {n g : Nat} {args args' : List AV} {h : Heap} {K : AV → Heap → Prop} (hf : C.fresh g = true) (hp : C.prim g = none) (ha : mapO (stripA 8) args = some args')
    (H : wpCall T C P n g args' heapF fun r h' => wpBack h' r fun y => K y h) : EvP C P g args h K := EvP.fresh hf hp ha (call_okW O n g args' heapF _ H)
theorem EvP.freshV (O : TabOk P C T) {n g : Nat} {args args' : List AV} {h : Heap} {v : AV} (hf : C.fresh g = true) (hp : C.prim g = none) (ha : mapO (stripA 8) args = some args')
    (H : wpCall T C P n g args' heapF fun r h' => wpBack h' r fun y => y = v) : EvP C P g args h fun y h' => y = v ∧ h' = h := by
  refine EvP.fresh hf hp ha ?_
  obtain ⟨m, r, h', h1, h2⟩ := call_okW O n g args' heapF _ H
  obtain ⟨y, h3, h4⟩ := wpBack_ok h2
  subst h4
  refine ⟨m, r, h', h1, ?_⟩
  have key : ∀ {k : AV → Prop}, wpBack h' r (fun y' => y' = y) → k y → wpBack h' r k := by
    intro k hb hk
    exact wpBack_mono hb fun z hz => hz ▸ hk
  exact key h2 ⟨rfl, rfl⟩
end
end
end Go.Ef

/- Symbolic evaluation: calls whose value is one of several. -/
namespace Go.Ef
open Go
noncomputable section
section
variable {P : Program} {C : Cfg} {T : Tab}
theorem aspec_ok {g : FuncId} {args : List AV} {h : Heap} {α : Type} {pre : Prop} {post : α → Prop} {val : α → AV} {s : CSpec}
    (hs : ({ pre := pre, alts := [{ α := α, post := post, val := val, heap := fun _ => h }] } : CSpec) = s) (H : pre → EvP C P g args h fun v h' => (∃ x, post x ∧ v = val x) ∧ h' = h) (hp : s.pre) :
    ∃ a ∈ s.alts, ∃ x m, a.post x ∧ callP C (evCall C P m) g args h = some (a.val x, a.heap x) := by
  subst hs
  obtain ⟨m, v, h', h1, ⟨x, h2, rfl⟩, rfl⟩ := H hp
  exact ⟨_, List.mem_singleton.2 rfl, x, m, h2, h1⟩
theorem EvP.freshK (O : TabOk P C T) {n g : Nat} {args args' : List AV} {h : Heap} {Q : AV → Prop} (hf : C.fresh g = true) (hp : C.prim g = none) (ha : mapO (stripA 8) args = some args')
    (H : wpCall T C P n g args' heapF fun r h' => wpBack h' r Q) : EvP C P g args h fun y h' => Q y ∧ h' = h := by
  refine EvP.fresh hf hp ha ?_
  obtain ⟨m, r, h', h1, h2⟩ := call_okW O n g args' heapF _ H
  exact ⟨m, r, h', h1, wpBack_mono h2 fun y hy => ⟨hy, rfl⟩⟩
end
end
end Go.Ef

/- Symbolic evaluation: one round of a loop, and what follows. -/
namespace Go.Ef
open Go
noncomputable section
section
variable {P : Program} {C : Cfg} {T : Tab}
theorem Ev.round (O : TabOk P C T) {n f i : Nat} {t : Tidy} {σ : St} {N : St → Prop} {X : Ex → St → Prop} {K : KR} (hi : firstId 8 (loopAt P f i) = i) (ht : C.tidy f i = some t) (hcan : σ.tidy t.head t.nloc = σ)
    (hs : wpRound T C P n f i σ N X) (hN : ∀ τ, N τ → Ev C P f (.loop (loopAt P f i)) τ K) (hX : ∀ e τ, X e τ → K e τ) : Ev C P f (.loop (loopAt P f i)) σ K := by
  unfold wpRound at hs
  rw [ht] at hs
  refine Ev.loopT (t := t) (by rw [hi]; exact ht) ?_
  rw [hcan]
  refine (code_okW O n f _ _ _ hs).mono fun e τ h => ?_
  cases e with
  | normal => exact Ev.tidied (t := t) (τ := τ.tidy t.head t.nloc) (by rw [hi]; exact ht) (tidy_tidy _ _ _).symm (hN _ h)
  | exit j => exact hX _ _ h
  | ret => exact hX _ _ h
theorem nspec_ok2 {g : FuncId} {args : List AV} {h h1 : Heap} {α : Type} {pre : Prop} {r : α} {val : α → AV} {s : CSpec} (hs : nspec pre r val h1 = s) (H : pre → EvP C P g args h fun v h' => v = val r ∧ h' = h1) (hp : s.pre) :
    ∃ a ∈ s.alts, ∃ x m, a.post x ∧ callP C (evCall C P m) g args h = some (a.val x, a.heap x) := by
  subst hs
  obtain ⟨m, v, h', g1, rfl, rfl⟩ := H hp
  exact ⟨_, List.mem_singleton.2 rfl, r, m, rfl, g1⟩
end
end
end Go.Ef

