/- Printf: padding. -/
import Derived.Test.YtfgocjmkefeeeaaDoorPrB
import Derived.Test.YtfgocjmkefeeeaaDoorEfW
/- Printf: tables for the second half of the seat: repeating, joining, padding. -/
namespace Go.Proofs.Pr
open Go Go.Ef
noncomputable section
set_option maxRecDepth 100000

def whole : List UInt8 := [100, 105, 111, 120, 88, 117]
def C42 (args : List AV) (h : Heap) : Option CSpec :=
  match args with
  | [.sc (.string s), .sc (.int .i64 n)] => some (nspec (0 ≤ n ∧ n ≤ 100000 ∧ s.data.toList.length ≤ 1000000) (List.replicate n.toNat s.data.toList).flatten (fun x => aStr x) h)
  | _ => none
def C61 (args : List AV) (h : Heap) : Option CSpec :=
  match args with
  | [.sl els _, .sc (.string sep)] => match mapO strS els with
    | some xs => some (nspec (sep.data.toList.isEmpty = true ∧ (xs.map fun s => s.data.toList).length ≤ 1000 ∧ ((xs.map fun s => s.data.toList).flatten).length ≤ 10000000) ((xs.map fun s => s.data.toList).flatten) (fun x => aStr x) h)
    | none => none
  | _ => none
def C43' (args : List AV) (h : Heap) : Option CSpec :=
  match args with
  | [.sc (.string s), .sc (.int .i32 r)] => some (nspec ((s.data.toList = kinds ∨ s.data.toList = whole) ∧ 0 ≤ r ∧ r ≤ 255) (s.data.toList.contains (UInt8.ofNat r.toNat)) (fun x => aBool x) h)
  | _ => none

theorem EvP.prim {g : FuncId} {p : List AV → Heap → Option (AV × Heap)} {args : List AV} {h h' : Heap} {v : AV} {K : AV → Heap → Prop} (hp : Door.cfg.prim g = some p) (he : p args h = some (v, h')) (hk : K v h') : EvP Door.cfg Tryd.prog g args h K :=
  ⟨0, v, h', by unfold callP; rw [hp]; exact he, hk⟩

theorem repeat_flat (l : List UInt8) : ∀ n, Lib.repeatL l n = (List.replicate n l).flatten := by
  intro n
  induction n with
  | zero => rfl
  | succ n ih => simp [Lib.repeatL, List.replicate_succ, ih]
theorem flat_len (l : List UInt8) (n : Nat) : (List.replicate n l).flatten.length = n * l.length := by simp

theorem ok42 {T : Tab} (O : TabOk Tryd.prog Door.cfg T) : TabOk Tryd.prog Door.cfg (T.addC 42 C42) := by
  refine addC_ok O fun args h s hs hp => ?_
  unfold C42 at hs
  split at hs
  · rename_i s0 n
    obtain ⟨⟨l⟩⟩ := s0
    refine nspec_ok (Option.some.inj hs) (fun hpre => ?_) hp
    obtain ⟨h1, h2, h3⟩ := hpre
    replace h3 : l.length ≤ 1000000 := h3
    refine EvP.prim (p := repeatP) rfl (v := aStr (Lib.repeatL l n.toNat)) (h' := h) ?_ ⟨by rw [repeat_flat], rfl⟩
    have e1 : decide (0 ≤ n) = true := by simpa using h1
    have e2 : Nat.ble n.toNat maxRoom = true := Nat.ble_eq_true_of_le (by unfold maxRoom; omega)
    have e3 : Nat.ble (ByteArray.size ⟨⟨l⟩⟩ * n.toNat) maxRoom = true := Nat.ble_eq_true_of_le (by
      show l.length * n.toNat ≤ 2 ^ 47
      have : l.length * n.toNat ≤ 1000000 * 100000 := Nat.mul_le_mul h3 (by omega)
      omega)
    show (bif decide (0 ≤ n) && Nat.ble n.toNat maxRoom && Nat.ble (ByteArray.size ⟨⟨l⟩⟩ * n.toNat) maxRoom then _ else none) = _
    rw [e1, e2, e3]
    rfl
  · cases hs

theorem join_flat : ∀ xs : List (List UInt8), Lib.join xs [] = xs.flatten := by
  intro xs
  cases xs with
  | nil => rfl
  | cons x r => rw [Lib.join_cons]; simp [Lib.joinTail]
theorem ok61 {T : Tab} (O : TabOk Tryd.prog Door.cfg T) : TabOk Tryd.prog Door.cfg (T.addC 61 C61) := by
  refine addC_ok O fun args h s hs hp => ?_
  unfold C61 at hs
  split at hs
  · rename_i els tok sep
    split at hs
    · rename_i xs hx
      refine nspec_ok (Option.some.inj hs) (fun hpre => ?_) hp
      obtain ⟨h1, h2, h3⟩ := hpre
      rw [List.length_map] at h2
      have h1 : sep.data.toList = [] := by simpa using h1
      have hj : Lib.join (xs.map (·.data.toList)) sep.data.toList = (xs.map fun s => s.data.toList).flatten := by rw [h1, join_flat]
      refine EvP.prim (p := joinP) rfl (v := aStr (Lib.join (xs.map (·.data.toList)) sep.data.toList)) (h' := h) ?_ ⟨by rw [hj], rfl⟩
      unfold joinP
      simp only [hx]
      have e1 : Nat.ble xs.length maxRoom = true := Nat.ble_eq_true_of_le (by unfold maxRoom; omega)
      have e2 : Nat.ble (Lib.join (xs.map (·.data.toList)) sep.data.toList).length maxRoom = true := Nat.ble_eq_true_of_le (by rw [hj]; unfold maxRoom; omega)
      rw [e1, e2]
      rfl
    · cases hs
  · cases hs

def is43w (r : Nat) : Bool :=
  match evCall Door.cfg Tryd.prog 200 43 [aStr whole, aK .i32 r] heapF with
  | some (.sc (.bool b), _) => b == whole.contains (UInt8.ofNat r)
  | _ => false
theorem all43w : (List.range 256).all is43w = true := by decide +kernel
theorem is43w_ok {r : Nat} (hr : r < 256) : ∃ h', evCall Door.cfg Tryd.prog 200 43 [aStr whole, aK .i32 r] heapF = some (aBool (whole.contains (UInt8.ofNat r)), h') := by
  have h := List.all_eq_true.1 all43w r (by simp [hr])
  unfold is43w at h
  split at h
  · rename_i b h' he
    have : b = whole.contains (UInt8.ofNat r) := by simpa using h
    exact ⟨h', by rw [he, this]; rfl⟩
  · cases h
theorem ok43' {T : Tab} (O : TabOk Tryd.prog Door.cfg T) : TabOk Tryd.prog Door.cfg (T.addC 43 C43') := by
  refine addC_ok O fun args h s hs hp => ?_
  unfold C43' at hs
  split at hs
  · rename_i s0 r
    obtain ⟨⟨l⟩⟩ := s0
    refine nspec_ok (Option.some.inj hs) (fun hpre => ?_) hp
    obtain ⟨h1, h2, h3⟩ := hpre
    obtain ⟨n, rfl⟩ := Int.eq_ofNat_of_zero_le h2
    replace h1 : l = kinds ∨ l = whole := h1
    rcases h1 with rfl | rfl
    · obtain ⟨h', he⟩ := is43_ok (r := n) (by omega)
      exact EvP.fresh (by kernel_rfl) (by kernel_rfl) (args' := [aStr kinds, aK .i32 n]) rfl ⟨200, _, h', he, rfl, rfl⟩
    · obtain ⟨h', he⟩ := is43w_ok (r := n) (by omega)
      exact EvP.fresh (by kernel_rfl) (by kernel_rfl) (args' := [aStr whole, aK .i32 n]) rfl ⟨200, _, h', he, rfl, rfl⟩
  · cases hs

def padF (d : Dir) (s r : List UInt8) : List UInt8 :=
  if d.minus then s ++ r ++ List.replicate (d.width - s.length - r.length).toNat 32
  else if d.zero ∧ (d.kind = 102 ∨ whole.contains (UInt8.ofNat d.kind.toNat) = true ∧ d.prec = -1) then s ++ List.replicate (d.width - s.length - r.length).toNat 48 ++ r
  else List.replicate (d.width - s.length - r.length).toNat 32 ++ s ++ r
def C25 (args : List AV) (h : Heap) : Option CSpec :=
  match args with
  | [.agg [.sc (.bool a), .sc (.bool b), .sc (.bool c), .sc (.bool e), .sc (.int .i64 w), .sc (.int .i64 p), .sc (.int .u8 k)], .sc (.string s), .sc (.string r)] =>
    some (nspec (-1000 ≤ w ∧ w ≤ 1000 ∧ 0 ≤ k ∧ k ≤ 255 ∧ s.data.toList.length ≤ 1000000 ∧ r.data.toList.length ≤ 1000000) (padF ⟨a, b, c, e, w, p, k⟩ s.data.toList r.data.toList) (fun x => aStr x) h)
  | _ => none
def Z1 : Tab := (((T3.addC 42 C42).addC 61 C61).addC 43 C43').name 25 7
def Z2 : Tab := Z1.addC 25 C25

end
end Go.Proofs.Pr

/- Printf: conditions of the second half, printed by a program from the evaluation. -/
namespace Go.Proofs.Pr
open Go Go.Ef
noncomputable section
set_option maxRecDepth 100000

theorem c25 (d : Dir) (s : List UInt8) (r : List UInt8) (K : AV → Prop) (h :
 ∀ (m : Int),
 m = max (IntKind.i64.wrap (IntKind.i64.wrap (d.width - (↑s.length : Int)) - (↑r.length : Int))) (0 : Int) →
 ((0 : Int) ≤ m ∧ m ≤ (100000 : Int) ∧ (1 : Nat) ≤ (1000000 : Nat)) ∧
 ∀ (x : List UInt8),
 x = (List.replicate m.toNat [(32 : UInt8)]).flatten →
 (([(100 : UInt8), (105 : UInt8), (111 : UInt8), (120 : UInt8), (88 : UInt8), (117 : UInt8)] = kinds ∨
 [(100 : UInt8), (105 : UInt8), (111 : UInt8), (120 : UInt8), (88 : UInt8), (117 : UInt8)] = whole) ∧
 (0 : Int) ≤ IntKind.i32.wrap d.kind ∧ IntKind.i32.wrap d.kind ≤ (255 : Int)) ∧
 ∀ (x_1 : Bool),
 x_1 =
 [(100 : UInt8), (105 : UInt8), (111 : UInt8), (120 : UInt8), (88 : UInt8), (117 : UInt8)].contains
 (UInt8.ofNat (IntKind.i32.wrap d.kind).toNat) →
 iteP x_1
 (iteP d.minus
 ((true = true ∧ [s, r, x].length ≤ (1000 : Nat) ∧ [s, r, x].flatten.length ≤ (10000000 : Nat)) ∧
 ∀ (x_2 : List UInt8),
 x_2 = [s, r, x].flatten → K (AV.sc (Value.string { data := { toList := x_2 } })))
 (iteP d.zero
 (iteP (d.kind == (102 : Int))
 (((0 : Int) ≤ max m (0 : Int) ∧
 max m (0 : Int) ≤ (100000 : Int) ∧ (1 : Nat) ≤ (1000000 : Nat)) ∧
 ∀ (x : List UInt8),
 x = (List.replicate (max m (0 : Int)).toNat [(48 : UInt8)]).flatten →
 (true = true ∧
 [s, x, r].length ≤ (1000 : Nat) ∧ [s, x, r].flatten.length ≤ (10000000 : Nat)) ∧
 ∀ (x_2 : List UInt8),
 x_2 = [s, x, r].flatten → K (AV.sc (Value.string { data := { toList := x_2 } })))
 (iteP (d.prec == (-1 : Int))
 (((0 : Int) ≤ max m (0 : Int) ∧
 max m (0 : Int) ≤ (100000 : Int) ∧ (1 : Nat) ≤ (1000000 : Nat)) ∧
 ∀ (x : List UInt8),
 x = (List.replicate (max m (0 : Int)).toNat [(48 : UInt8)]).flatten →
 (true = true ∧
 [s, x, r].length ≤ (1000 : Nat) ∧ [s, x, r].flatten.length ≤ (10000000 : Nat)) ∧
 ∀ (x_2 : List UInt8),
 x_2 = [s, x, r].flatten → K (AV.sc (Value.string { data := { toList := x_2 } })))
 ((true = true ∧
 [x, s, r].length ≤ (1000 : Nat) ∧ [x, s, r].flatten.length ≤ (10000000 : Nat)) ∧
 ∀ (x_2 : List UInt8),
 x_2 = [x, s, r].flatten → K (AV.sc (Value.string { data := { toList := x_2 } })))))
 ((true = true ∧ [x, s, r].length ≤ (1000 : Nat) ∧ [x, s, r].flatten.length ≤ (10000000 : Nat)) ∧
 ∀ (x_2 : List UInt8),
 x_2 = [x, s, r].flatten → K (AV.sc (Value.string { data := { toList := x_2 } })))))
 (iteP d.minus
 ((true = true ∧ [s, r, x].length ≤ (1000 : Nat) ∧ [s, r, x].flatten.length ≤ (10000000 : Nat)) ∧
 ∀ (x_2 : List UInt8),
 x_2 = [s, r, x].flatten → K (AV.sc (Value.string { data := { toList := x_2 } })))
 (iteP d.zero
 (iteP (d.kind == (102 : Int))
 (((0 : Int) ≤ max m (0 : Int) ∧
 max m (0 : Int) ≤ (100000 : Int) ∧ (1 : Nat) ≤ (1000000 : Nat)) ∧
 ∀ (x : List UInt8),
 x = (List.replicate (max m (0 : Int)).toNat [(48 : UInt8)]).flatten →
 (true = true ∧
 [s, x, r].length ≤ (1000 : Nat) ∧ [s, x, r].flatten.length ≤ (10000000 : Nat)) ∧
 ∀ (x_2 : List UInt8),
 x_2 = [s, x, r].flatten → K (AV.sc (Value.string { data := { toList := x_2 } })))
 ((true = true ∧ [x, s, r].length ≤ (1000 : Nat) ∧ [x, s, r].flatten.length ≤ (10000000 : Nat)) ∧
 ∀ (x_2 : List UInt8),
 x_2 = [x, s, r].flatten → K (AV.sc (Value.string { data := { toList := x_2 } }))))
 ((true = true ∧ [x, s, r].length ≤ (1000 : Nat) ∧ [x, s, r].flatten.length ≤ (10000000 : Nat)) ∧
 ∀ (x_2 : List UInt8),
 x_2 = [x, s, r].flatten → K (AV.sc (Value.string { data := { toList := x_2 } })))))) :
 (fun (d : Dir) (s r : List UInt8) (K : AV → Prop) => wpCall Z1 Door.cfg Tryd.prog 40 25 [.agg d.cells, aStr s, aStr r] heapF fun r h' => wpBack h' r K) d s r K :=
 Eq.mp (by kernel_rfl) h

end
end Go.Proofs.Pr

/- Printf: padding. -/
namespace Go.Proofs.Pr
open Go Go.Ef
noncomputable section
set_option maxRecDepth 100000

theorem rep_one (n : Nat) (a : UInt8) : (List.replicate n [a]).flatten = List.replicate n a := by
  induction n with
  | zero => rfl
  | succ n ih => simp [List.replicate_succ, ih]
theorem okZ1 : TabOk Tryd.prog Door.cfg Z1 := name_ok (ok43' (ok61 (ok42 ok31))) 25 7

theorem okZ2 : TabOk Tryd.prog Door.cfg Z2 := by
  refine addC_ok okZ1 fun args h s hs hp => ?_
  unfold C25 at hs
  split at hs
  · rename_i a b c e w p k s0 r0
    obtain ⟨⟨s1⟩⟩ := s0
    obtain ⟨⟨r1⟩⟩ := r0
    refine nspec_ok (Option.some.inj hs) (fun hpre => ?_) hp
    obtain ⟨p1, p2, p3, p4, p5, p6⟩ := hpre
    replace p5 : s1.length ≤ 1000000 := p5
    replace p6 : r1.length ≤ 1000000 := p6
    refine EvP.freshV okZ1 (n := 40) (by kernel_rfl) (by kernel_rfl) (args' := [.agg (Dir.cells ⟨a, b, c, e, w, p, k⟩), aStr s1, aStr r1]) rfl (c25 ⟨a, b, c, e, w, p, k⟩ s1 r1 _ ?_)
    have w1 : IntKind.i64.wrap (w - s1.length) = w - s1.length := wrap_in (by omega) (by omega)
    have w2 : IntKind.i64.wrap (w - s1.length - r1.length) = w - s1.length - r1.length := wrap_in (by omega) (by omega)
    have w3 : IntKind.i32.wrap k = k := by rw [wrap32]; omega
    intro m hm
    replace hm : m = max (w - s1.length - r1.length) 0 := by rw [hm]; show max (IntKind.i64.wrap (IntKind.i64.wrap (w - s1.length) - r1.length)) 0 = _; rw [w1, w2]
    have m1 : max m 0 = m := by omega
    have m2 : m.toNat = (w - s1.length - r1.length).toNat := by omega
    refine ⟨⟨by omega, by omega, by decide⟩, fun x hx => ?_⟩
    rw [rep_one] at hx
    refine ⟨⟨.inr rfl, by show 0 ≤ IntKind.i32.wrap k; omega, by show IntKind.i32.wrap k ≤ 255; omega⟩, fun x1 hx1 => ?_⟩
    replace hx1 : x1 = whole.contains (UInt8.ofNat k.toNat) := by rw [hx1]; show whole.contains (UInt8.ofNat (IntKind.i32.wrap k).toNat) = _; rw [w3]
    have hl : x.length ≤ 1000 := by rw [hx, List.length_replicate]; omega
    have len3 : ∀ u v t : List UInt8, u.length ≤ 1000000 → v.length ≤ 1000000 → t.length ≤ 1000000 → [u, v, t].flatten.length ≤ 10000000 := by
      intro u v t h1 h2 h3; simp; omega
    have A : ∀ u v t : List UInt8, [u, v, t].flatten = u ++ v ++ t := by intro u v t; simp
    have leaf : ∀ (K : AV → Prop) (u v t : List UInt8), u.length ≤ 1000000 → v.length ≤ 1000000 → t.length ≤ 1000000 → K (AV.sc (Value.string ⟨⟨u ++ v ++ t⟩⟩)) → (true = true ∧ [u, v, t].length ≤ 1000 ∧ [u, v, t].flatten.length ≤ 10000000) ∧ ∀ x2 : List UInt8, x2 = [u, v, t].flatten → K (AV.sc (Value.string ⟨⟨x2⟩⟩)) := by
      intro K u v t h1 h2 h3 hk
      refine ⟨⟨rfl, by show 3 ≤ 1000; decide, len3 u v t h1 h2 h3⟩, fun x2 e => ?_⟩
      rw [e, A]; exact hk
    have lx : x.length ≤ 1000000 := by omega
    have zero : ∀ (K : AV → Prop), K (AV.sc (Value.string ⟨⟨s1 ++ List.replicate (w - s1.length - r1.length).toNat 48 ++ r1⟩⟩)) → (0 ≤ max m 0 ∧ max m 0 ≤ 100000 ∧ 1 ≤ 1000000) ∧ ∀ x : List UInt8, x = (List.replicate (max m 0).toNat [48]).flatten → (true = true ∧ [s1, x, r1].length ≤ 1000 ∧ [s1, x, r1].flatten.length ≤ 10000000) ∧ ∀ x2 : List UInt8, x2 = [s1, x, r1].flatten → K (AV.sc (Value.string ⟨⟨x2⟩⟩)) := by
      intro K hk
      refine ⟨⟨by omega, by omega, by decide⟩, fun x hx => ?_⟩
      rw [rep_one, m1, m2] at hx
      refine leaf K _ _ _ p5 (by rw [hx, List.length_replicate]; omega) p6 (by rw [hx]; exact hk)
    rw [m2] at hx
    have L1 := fun R hk => leaf (fun v => v = aStr R) s1 r1 x p5 p6 lx hk
    have L3 := fun R hk => leaf (fun v => v = aStr R) x s1 r1 lx p5 p6 hk
    have L2 := fun R hk => zero (fun v => v = aStr R) hk
    have I : ∀ {q : Bool} {A B : Prop}, (q = true → A) → (q = false → B) → iteP q A B := fun h1 h2 => iteP_iff ▸ ⟨h1, h2⟩
    have P1 : a = true → x = List.replicate (w - s1.length - r1.length).toNat 32 → AV.sc (Value.string ⟨⟨s1 ++ r1 ++ x⟩⟩) = aStr (padF ⟨a, b, c, e, w, p, k⟩ s1 r1) := by
      intro e1 e2; simp only [padF, e1, e2, if_pos]; rfl
    have P2 : a = false → b = true → (k = 102 ∨ x1 = true ∧ p = -1) → AV.sc (Value.string ⟨⟨s1 ++ List.replicate (w - s1.length - r1.length).toNat 48 ++ r1⟩⟩) = aStr (padF ⟨a, b, c, e, w, p, k⟩ s1 r1) := by
      intro e1 e2 e3
      rw [hx1] at e3
      show _ = aStr (if a = true then _ else if b = true ∧ (k = 102 ∨ whole.contains (UInt8.ofNat k.toNat) = true ∧ p = -1) then _ else _)
      rw [if_neg (by rw [e1]; decide), if_pos ⟨e2, e3⟩]; rfl
    have P3 : a = false → ¬ (b = true ∧ (k = 102 ∨ x1 = true ∧ p = -1)) → AV.sc (Value.string ⟨⟨x ++ s1 ++ r1⟩⟩) = aStr (padF ⟨a, b, c, e, w, p, k⟩ s1 r1) := by
      intro e1 e3
      rw [hx1] at e3
      show _ = aStr (if a = true then _ else if b = true ∧ (k = 102 ∨ whole.contains (UInt8.ofNat k.toNat) = true ∧ p = -1) then _ else _)
      rw [if_neg (by rw [e1]; decide), if_neg e3, hx]; rfl
    refine I (fun e1 => I (fun e2 => L1 _ (P1 e2 hx)) (fun e2 => I (fun e3 => I (fun e4 => L2 _ (P2 e2 e3 (.inl (by simpa using e4)))) (fun e4 => I (fun e5 => L2 _ (P2 e2 e3 (.inr ⟨e1, by simpa using e5⟩))) (fun e5 => L3 _ (P3 e2 ?_)))) (fun e3 => L3 _ (P3 e2 ?_))))
      (fun e1 => I (fun e2 => L1 _ (P1 e2 hx)) (fun e2 => I (fun e3 => I (fun e4 => L2 _ (P2 e2 e3 (.inl (by simpa using e4)))) (fun e4 => L3 _ (P3 e2 ?_))) (fun e3 => L3 _ (P3 e2 ?_))))
    · have e4 : k ≠ 102 := by simpa using e4
      have e5 : p ≠ -1 := by simpa using e5
      rintro ⟨_, q | ⟨_, q⟩⟩
      · exact e4 q
      · exact e5 q
    · rintro ⟨q, _⟩
      have e3 : b = false := e3
      rw [e3] at q; cases q
    · have e4 : k ≠ 102 := by simpa using e4
      rintro ⟨_, q | ⟨q, _⟩⟩
      · exact e4 q
      · rw [e1] at q; cases q
    · rintro ⟨q, _⟩
      have e3 : b = false := e3
      rw [e3] at q; cases q
  · cases hs

end
end Go.Proofs.Pr

