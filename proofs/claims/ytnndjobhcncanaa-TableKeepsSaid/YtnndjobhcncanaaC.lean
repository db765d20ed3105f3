/- The calculus, third part: what operations yield. No statement of the seat is proved here. -/
import Derived.Test.YtnndjobhcncanaaB
namespace Go.Proofs.Ytnndjobhcncanaa
open Go.RowKit

class UT (P : Program) (t : TypeId) (d : outParam TypeDesc) : Prop where out : P.underlying t = some d
class IT (P : Program) (t : TypeId) (z : outParam Value) (sz bytes : outParam Nat) : Prop where
  eq : (P.info? t).map (fun i => (i.zero, i.size, i.bytes)) = some (some z, sz, bytes)
  cs : z.cells.size = sz
theorem IT.out {P : Program} {t : TypeId} {z : Value} {sz bytes : Nat} (it : IT P t z sz bytes) : ∃ i, P.info? t = some i ∧ i.zero = some z ∧ i.size = sz ∧ i.bytes = bytes := by
  obtain ⟨i, h1, h2⟩ := Option.map_eq_some_iff.1 it.eq
  simp only [Prod.mk.injEq] at h2
  exact ⟨i, h1, h2.1, h2.2.1, h2.2.2⟩
def isAggD : TypeDesc → Bool
  | .struct _ | .array _ _ => true
  | _ => false
section
variable {P : Program} {w : World} {t : TypeId}
theorem run_isAgg {d : TypeDesc} [u : UT P t d] : (isAgg t).run P w = .ok (isAggD d) w := by
  unfold isAgg
  simp [run_underlying u.out]
  cases d <;> rfl
theorem run_size {z : Value} {sz b : Nat} [i : IT P t z sz b] : (sizeOf t).run P w = .ok sz w := by
  obtain ⟨i, h1, h2, h3, h4⟩ := i.out
  simp [sizeOf, typeInfo, h1, h3]
theorem run_zero {z : Value} {sz b : Nat} [i : IT P t z sz b] : (zeroValue t).run P w = .ok z w := by
  obtain ⟨i, h1, h2, h3, h4⟩ := i.out
  simp [zeroValue, typeInfo, h1, h2]
end

/-- A cell of what never changes. -/
def cellS (s : Store) (a : Addr) : Option Value :=
  match s a.block with
  | some (.cells c _ _) => if a.spot.isSome then none else c[a.off]?
  | _ => none
theorem cellS_le {s s' : Store} (h : s.le s') {a : Addr} {v : Value} (e : cellS s a = some v) : cellS s' a = some v := by
  unfold cellS at e ⊢
  cases hs : s a.block with
  | none => rw [hs] at e; cases e
  | some o => rw [h _ _ hs]; rw [hs] at e; exact e
theorem Mem.cell {s : Store} {h : List Ent} {w : World} (m : Mem s h w) {a : Addr} {v : Value} (e : cellS s a = some v) : w.cell? a = some v := by
  unfold cellS at e
  unfold World.cell?
  cases hs : s a.block with
  | none => rw [hs] at e; cases e
  | some o => rw [m.im _ _ hs]; rw [hs] at e; cases o <;> simp_all
theorem Mem.blk {s : Store} {h : List Ent} {w : World} (m : Mem s h w) {g : Nat} {o : Obj} (e : Ent.blk g o ∈ h) : w.heap[g]? = some o := m.own _ e

/-- A slice whose cells never change: its address, its length, its capacity, the cells of an element, the cells. -/
structure Sl (s : Store) (A : Option Addr) (n c sz : Nat) (cs : List Value) : Prop where
  len : cs.length = n * sz
  cap : n ≤ c
  max : c ≤ 9223372036854775807
  at_ : ∀ j u, cs[j]? = some u → A.isSome = true ∧ cellS s ((A.getD default).add j) = some u
theorem Sl.le {s s' : Store} {A : Option Addr} {n c sz : Nat} {cs : List Value} (h : Sl s A n c sz cs) (hle : s.le s') : Sl s' A n c sz cs :=
  ⟨h.len, h.cap, h.max, fun j u e => ⟨(h.at_ j u e).1, cellS_le hle (h.at_ j u e).2⟩⟩
theorem Sl.nil (s : Store) (sz : Nat) : Sl s none 0 0 sz [] := ⟨by simp, Nat.le_refl _, by omega, fun j u e => by simp at e⟩

/-- Values of operands. -/
def Fr.vals (f : Fr) : List Operand → Option (List Value)
  | [] => some []
  | x :: xs => match f.val x, Fr.vals f xs with
    | some v, some vs => some (v :: vs)
    | _, _ => none
theorem Fr.ok.evals {f : Fr} {a : Act} (h : f.ok a) : ∀ {xs : List Operand} {vs : List Value}, f.vals xs = some vs → xs.map a.eval = vs
  | [], vs, e => by simp [Fr.vals] at e; simp [e]
  | x :: xs, vs, e => by
    simp only [Fr.vals] at e
    cases hx : f.val x with
    | none => rw [hx] at e; cases e
    | some v =>
      cases hxs : f.vals xs with
      | none => rw [hx, hxs] at e; cases e
      | some us =>
        rw [hx, hxs] at e
        simp at e
        subst e
        simp [h.eval hx, h.evals hxs]
def Fr.parts (f : Fr) : List (Nat × Operand) → Option (List (Nat × Value))
  | [] => some []
  | (i, x) :: xs => match f.val x, Fr.parts f xs with
    | some v, some vs => some ((i, v) :: vs)
    | _, _ => none
theorem Fr.ok.eparts {f : Fr} {a : Act} (h : f.ok a) : ∀ {xs : List (Nat × Operand)} {vs : List (Nat × Value)}, f.parts xs = some vs → xs.map (fun p => (p.1, a.eval p.2)) = vs
  | [], vs, e => by simp [Fr.parts] at e; simp [e]
  | (i, x) :: xs, vs, e => by
    simp only [Fr.parts] at e
    cases hx : f.val x with
    | none => rw [hx] at e; cases e
    | some v =>
      cases hxs : f.parts xs with
      | none => rw [hx, hxs] at e; cases e
      | some us =>
        rw [hx, hxs] at e
        simp at e
        subst e
        simp [h.eval hx, h.eparts hxs]
section
variable {P : Program} {f : Fr} {s : Store} {h : List Ent} {o : Oper} {v : Value}
theorem PEv.mk' (H : ∀ a w, f.ok a → Mem s h w → (execOp a.eval o).run P w = .ok (.value v) w) : PEv P f s h o v := H
theorem PEv.move {x : Operand} (ho : o.op = .move x) (hx : f.val x = some v) : PEv P f s h o v := fun a w h1 _ => by
  simp [execOp, ho, h1.eval hx]
theorem PEv.assign {x : Operand} (ho : o.op = .assign x) (hx : f.val x = some v) : PEv P f s h o v := fun a w h1 _ => by
  simp [execOp, ho, h1.eval hx]
theorem PEv.pickT {c x y : Operand} (ho : o.op = .pick c x y) (hc : f.val c = some (.bool true)) (hx : f.val x = some v) : PEv P f s h o v := fun a w h1 _ => by
  simp [execOp, ho, h1.eval hx, h1.eval hc, asBool]
theorem PEv.pickF {c x y : Operand} (ho : o.op = .pick c x y) (hc : f.val c = some (.bool false)) (hx : f.val y = some v) : PEv P f s h o v := fun a w h1 _ => by
  simp [execOp, ho, h1.eval hx, h1.eval hc, asBool]
theorem run_eqGuard_int {op : BinOp} {t : TypeId} {x y : Operand} {k k' : IntKind} {m n : Int} {w : World} : (eqGuard op t x y (.int k m) (.int k' n)).run P w = .ok () w := by
  unfold eqGuard
  cases op <;> simp
theorem PEv.binI {op : BinOp} {t t' : TypeId} {x y : Operand} {k : IntKind} {m n : Int} (ho : o.op = .binOp op t x y t') (hx : f.val x = some (.int k m)) (hy : f.val y = some (.int k n))
    (H : ∀ w, (binOp op t (.int k m) (.int k n)).run P w = .ok v w) : PEv P f s h o v := fun a w h1 _ => by
  simp only [execOp, ho, h1.eval hx, h1.eval hy, Sem.run_bind, run_eqGuard_int, Result.andThen_ok, H, Sem.run_pure]
theorem wrap_in {n : Int} (h0 : -9223372036854775808 ≤ n) (h1 : n ≤ 9223372036854775807) : IntKind.i64.wrap n = n := by rw [IntKind.wrap_i64]; omega
theorem PEv.addI {t t' : TypeId} {x y : Operand} {m n : Int} (ho : o.op = .binOp .add t x y t') (hx : f.val x = some (.int .i64 m)) (hy : f.val y = some (.int .i64 n))
    (h0 : -9223372036854775808 ≤ m + n) (h1 : m + n ≤ 9223372036854775807) : PEv P f s h o (.int .i64 (m + n)) :=
  PEv.binI ho hx hy fun w => by simp [binOp, Op.intArith, wrap_in h0 h1]
theorem PEv.subI {t t' : TypeId} {x y : Operand} {m n : Int} (ho : o.op = .binOp .sub t x y t') (hx : f.val x = some (.int .i64 m)) (hy : f.val y = some (.int .i64 n))
    (h0 : -9223372036854775808 ≤ m - n) (h1 : m - n ≤ 9223372036854775807) : PEv P f s h o (.int .i64 (m - n)) :=
  PEv.binI ho hx hy fun w => by simp [binOp, Op.intArith, wrap_in h0 h1]
theorem PEv.mulI {t t' : TypeId} {x y : Operand} {m n : Int} (ho : o.op = .binOp .mul t x y t') (hx : f.val x = some (.int .i64 m)) (hy : f.val y = some (.int .i64 n))
    (h0 : -9223372036854775808 ≤ m * n) (h1 : m * n ≤ 9223372036854775807) : PEv P f s h o (.int .i64 (m * n)) :=
  PEv.binI ho hx hy fun w => by simp [binOp, Op.intArith, wrap_in h0 h1]
theorem PEv.addW {t t' : TypeId} {x y : Operand} {k : IntKind} {m n : Int} (ho : o.op = .binOp .add t x y t') (hx : f.val x = some (.int k m)) (hy : f.val y = some (.int k n)) : PEv P f s h o (.int k (k.wrap (m + n))) :=
  PEv.binI ho hx hy fun w => by simp [binOp, Op.intArith]
theorem PEv.subW {t t' : TypeId} {x y : Operand} {k : IntKind} {m n : Int} (ho : o.op = .binOp .sub t x y t') (hx : f.val x = some (.int k m)) (hy : f.val y = some (.int k n)) : PEv P f s h o (.int k (k.wrap (m - n))) :=
  PEv.binI ho hx hy fun w => by simp [binOp, Op.intArith]
theorem PEv.eqI {t t' : TypeId} {x y : Operand} {k : IntKind} {m n : Int} (ho : o.op = .binOp .eql t x y t') (hx : f.val x = some (.int k m)) (hy : f.val y = some (.int k n)) : PEv P f s h o (.bool (decide (m = n))) :=
  PEv.binI ho hx hy fun w => by simp [binOp, Op.intCmp]; rfl
theorem PEv.neI {t t' : TypeId} {x y : Operand} {k : IntKind} {m n : Int} (ho : o.op = .binOp .neq t x y t') (hx : f.val x = some (.int k m)) (hy : f.val y = some (.int k n)) : PEv P f s h o (.bool (decide (m ≠ n))) :=
  PEv.binI ho hx hy fun w => by
    have : (m != n) = decide (m ≠ n) := by by_cases e : m = n <;> simp [e]
    simp [binOp, Op.intCmp, this]
theorem PEv.ltI {t t' : TypeId} {x y : Operand} {k : IntKind} {m n : Int} (ho : o.op = .binOp .lss t x y t') (hx : f.val x = some (.int k m)) (hy : f.val y = some (.int k n)) : PEv P f s h o (.bool (decide (m < n))) :=
  PEv.binI ho hx hy fun w => by simp [binOp, Op.intCmp]
theorem PEv.leI {t t' : TypeId} {x y : Operand} {k : IntKind} {m n : Int} (ho : o.op = .binOp .leq t x y t') (hx : f.val x = some (.int k m)) (hy : f.val y = some (.int k n)) : PEv P f s h o (.bool (decide (m ≤ n))) :=
  PEv.binI ho hx hy fun w => by simp [binOp, Op.intCmp]
theorem PEv.gtI {t t' : TypeId} {x y : Operand} {k : IntKind} {m n : Int} (ho : o.op = .binOp .gtr t x y t') (hx : f.val x = some (.int k m)) (hy : f.val y = some (.int k n)) : PEv P f s h o (.bool (decide (n < m))) :=
  PEv.binI ho hx hy fun w => by simp [binOp, Op.intCmp]
theorem PEv.geI {t t' : TypeId} {x y : Operand} {k : IntKind} {m n : Int} (ho : o.op = .binOp .geq t x y t') (hx : f.val x = some (.int k m)) (hy : f.val y = some (.int k n)) : PEv P f s h o (.bool (decide (n ≤ m))) :=
  PEv.binI ho hx hy fun w => by simp [binOp, Op.intCmp]
theorem PEv.eqT {t t' : TypeId} {x y : Operand} {k : IntKind} {m n : Int} (ho : o.op = .binOp .eql t x y t') (hx : f.val x = some (.int k m)) (hy : f.val y = some (.int k n)) (hp : m = n) : PEv P f s h o (.bool true) := by
  have := PEv.eqI (P := P) (s := s) (h := h) ho hx hy
  rwa [decide_eq_true hp] at this
theorem PEv.eqF {t t' : TypeId} {x y : Operand} {k : IntKind} {m n : Int} (ho : o.op = .binOp .eql t x y t') (hx : f.val x = some (.int k m)) (hy : f.val y = some (.int k n)) (hp : ¬ (m = n)) : PEv P f s h o (.bool false) := by
  have := PEv.eqI (P := P) (s := s) (h := h) ho hx hy
  rwa [decide_eq_false hp] at this
theorem PEv.neT {t t' : TypeId} {x y : Operand} {k : IntKind} {m n : Int} (ho : o.op = .binOp .neq t x y t') (hx : f.val x = some (.int k m)) (hy : f.val y = some (.int k n)) (hp : m ≠ n) : PEv P f s h o (.bool true) := by
  have := PEv.neI (P := P) (s := s) (h := h) ho hx hy
  rwa [decide_eq_true hp] at this
theorem PEv.neF {t t' : TypeId} {x y : Operand} {k : IntKind} {m n : Int} (ho : o.op = .binOp .neq t x y t') (hx : f.val x = some (.int k m)) (hy : f.val y = some (.int k n)) (hp : ¬ (m ≠ n)) : PEv P f s h o (.bool false) := by
  have := PEv.neI (P := P) (s := s) (h := h) ho hx hy
  rwa [decide_eq_false hp] at this
theorem PEv.ltT {t t' : TypeId} {x y : Operand} {k : IntKind} {m n : Int} (ho : o.op = .binOp .lss t x y t') (hx : f.val x = some (.int k m)) (hy : f.val y = some (.int k n)) (hp : m < n) : PEv P f s h o (.bool true) := by
  have := PEv.ltI (P := P) (s := s) (h := h) ho hx hy
  rwa [decide_eq_true hp] at this
theorem PEv.ltF {t t' : TypeId} {x y : Operand} {k : IntKind} {m n : Int} (ho : o.op = .binOp .lss t x y t') (hx : f.val x = some (.int k m)) (hy : f.val y = some (.int k n)) (hp : ¬ (m < n)) : PEv P f s h o (.bool false) := by
  have := PEv.ltI (P := P) (s := s) (h := h) ho hx hy
  rwa [decide_eq_false hp] at this
theorem PEv.leT {t t' : TypeId} {x y : Operand} {k : IntKind} {m n : Int} (ho : o.op = .binOp .leq t x y t') (hx : f.val x = some (.int k m)) (hy : f.val y = some (.int k n)) (hp : m ≤ n) : PEv P f s h o (.bool true) := by
  have := PEv.leI (P := P) (s := s) (h := h) ho hx hy
  rwa [decide_eq_true hp] at this
theorem PEv.leF {t t' : TypeId} {x y : Operand} {k : IntKind} {m n : Int} (ho : o.op = .binOp .leq t x y t') (hx : f.val x = some (.int k m)) (hy : f.val y = some (.int k n)) (hp : ¬ (m ≤ n)) : PEv P f s h o (.bool false) := by
  have := PEv.leI (P := P) (s := s) (h := h) ho hx hy
  rwa [decide_eq_false hp] at this
theorem PEv.gtT {t t' : TypeId} {x y : Operand} {k : IntKind} {m n : Int} (ho : o.op = .binOp .gtr t x y t') (hx : f.val x = some (.int k m)) (hy : f.val y = some (.int k n)) (hp : n < m) : PEv P f s h o (.bool true) := by
  have := PEv.gtI (P := P) (s := s) (h := h) ho hx hy
  rwa [decide_eq_true hp] at this
theorem PEv.gtF {t t' : TypeId} {x y : Operand} {k : IntKind} {m n : Int} (ho : o.op = .binOp .gtr t x y t') (hx : f.val x = some (.int k m)) (hy : f.val y = some (.int k n)) (hp : ¬ (n < m)) : PEv P f s h o (.bool false) := by
  have := PEv.gtI (P := P) (s := s) (h := h) ho hx hy
  rwa [decide_eq_false hp] at this
theorem PEv.geT {t t' : TypeId} {x y : Operand} {k : IntKind} {m n : Int} (ho : o.op = .binOp .geq t x y t') (hx : f.val x = some (.int k m)) (hy : f.val y = some (.int k n)) (hp : n ≤ m) : PEv P f s h o (.bool true) := by
  have := PEv.geI (P := P) (s := s) (h := h) ho hx hy
  rwa [decide_eq_true hp] at this
theorem PEv.geF {t t' : TypeId} {x y : Operand} {k : IntKind} {m n : Int} (ho : o.op = .binOp .geq t x y t') (hx : f.val x = some (.int k m)) (hy : f.val y = some (.int k n)) (hp : ¬ (n ≤ m)) : PEv P f s h o (.bool false) := by
  have := PEv.geI (P := P) (s := s) (h := h) ho hx hy
  rwa [decide_eq_false hp] at this
theorem PEv.shr {t t' : TypeId} {x y : Operand} {k k' : IntKind} {m n : Int} (ho : o.op = .binOp .shr t x y t') (hx : f.val x = some (.int k m)) (hy : f.val y = some (.int k' n)) (h0 : 0 ≤ n) (h1 : n ≤ k.bits) : PEv P f s h o (.int k (m / 2 ^ n.toNat)) := fun a w h2 _ => by
  have h3 : ¬ n < 0 := by omega
  have h4 : Nat.min n.toNat k.bits = n.toNat := Nat.min_eq_left (by omega)
  have h5 : m.fdiv (2 ^ n.toNat) = m / 2 ^ n.toNat := Int.fdiv_eq_ediv_of_nonneg m (Int.le_of_lt (Int.pow_pos (by decide)))
  simp [execOp, ho, h2.eval hx, h2.eval hy, run_eqGuard_int, binOp, Op.shift, h3, h4, h5]
theorem PEv.shr7 {t t' : TypeId} {x : Operand} {k' : IntKind} {m : Int} (ho : o.op = .binOp .shr t x (.const (.int k' 7)) t') (hx : f.val x = some (.int .i64 m)) : PEv P f s h o (.int .i64 (m / 128)) := by
  have := PEv.shr (P := P) (s := s) (h := h) ho hx rfl (by decide) (by decide)
  exact this
theorem PEv.shl {t t' : TypeId} {x y : Operand} {k k' : IntKind} {m n : Int} (ho : o.op = .binOp .shl t x y t') (hx : f.val x = some (.int k m)) (hy : f.val y = some (.int k' n)) (h0 : 0 ≤ n) (h1 : n ≤ k.bits) : PEv P f s h o (.int k (k.wrap (m * 2 ^ n.toNat))) := fun a w h2 _ => by
  have h3 : ¬ n < 0 := by omega
  simp [execOp, ho, h2.eval hx, h2.eval hy, run_eqGuard_int, binOp, Op.shift, h3, Nat.min_def]
  split
  · rfl
  · rw [show n.toNat = k.bits from by omega]
theorem PEv.convU8 {t t' : TypeId} {x : Operand} {k' : IntKind} {n : Int} {d : TypeDesc} [ut : UT P t d] [u : UT P t' (.int .u8)] (ho : o.op = .convert t t' x) (hx : f.val x = some (.int k' n)) : PEv P f s h o (.int .u8 (n % 256)) := fun a w h1 _ => by
  have : IntKind.u8.wrap n = n % 256 := by simp [IntKind.wrap, IntKind.signed, IntKind.bits]
  simp [execOp, ho, h1.eval hx, convert, run_underlying u.out, run_underlying ut.out, Conv.intToInt, this]
theorem u8_or (b : Nat) (hb : b < 256) : (128 : Nat) ||| b = 128 + b % 128 := by
  have : ∀ x : Fin 256, (128 : Nat) ||| x.val = 128 + x.val % 128 := by decide +kernel
  exact this ⟨b, hb⟩
theorem PEv.or128 {t t' : TypeId} {y : Operand} {n : Int} (ho : o.op = .binOp .or t (.const (.int .u8 128)) y t') (hy : f.val y = some (.int .u8 n)) (h0 : 0 ≤ n) (h1 : n < 256) : PEv P f s h o (.int .u8 (128 + n % 128)) :=
  PEv.binI ho rfl hy fun w => by
    obtain ⟨m, rfl⟩ := Int.eq_ofNat_of_zero_le h0
    have hm : m < 256 := by omega
    have e1 : (BitVec.ofInt IntKind.u8.bits 128 ||| BitVec.ofInt IntKind.u8.bits (m : Int)).toNat = 128 ||| m := by
      simp only [BitVec.toNat_or, BitVec.toNat_ofInt]
      simp only [IntKind.bits]
      congr 1
      omega
    simp only [binOp, Op.intBits, ne_eq, not_true_eq_false, if_false, Sem.run_pure]
    rw [e1, u8_or m hm]
    have : IntKind.u8.wrap ((128 + m % 128 : Nat) : Int) = 128 + (m : Int) % 128 := by simp [IntKind.wrap, IntKind.signed, IntKind.bits]; omega
    rw [this]
theorem u8_and (b : Nat) (hb : b < 256) : b &&& (127 : Nat) = b % 128 := by
  have : ∀ x : Fin 256, x.val &&& (127 : Nat) = x.val % 128 := by decide +kernel
  exact this ⟨b, hb⟩
theorem PEv.and127 {t t' : TypeId} {y : Operand} {n : Int} (ho : o.op = .binOp .and t y (.const (.int .u8 127)) t') (hy : f.val y = some (.int .u8 n)) (h0 : 0 ≤ n) (h1 : n < 256) : PEv P f s h o (.int .u8 (n % 128)) :=
  PEv.binI ho hy rfl fun w => by
    obtain ⟨m, rfl⟩ := Int.eq_ofNat_of_zero_le h0
    have hm : m < 256 := by omega
    have e1 : (BitVec.ofInt IntKind.u8.bits (m : Int) &&& BitVec.ofInt IntKind.u8.bits 127).toNat = m &&& 127 := by
      simp only [BitVec.toNat_and, BitVec.toNat_ofInt]
      simp only [IntKind.bits]
      congr 1
      omega
    simp only [binOp, Op.intBits, ne_eq, not_true_eq_false, if_false, Sem.run_pure]
    rw [e1, u8_and m hm]
    have : IntKind.u8.wrap ((m % 128 : Nat) : Int) = (m : Int) % 128 := by simp [IntKind.wrap, IntKind.signed, IntKind.bits]; omega
    rw [this]
theorem pow7 (j : Nat) : (2 : Int) ^ (7 * j) = 128 ^ j := by rw [Int.pow_mul]; rfl
theorem PEv.shl7 {t t' : TypeId} {x y : Operand} {k' : IntKind} {m : Int} {j : Nat} (ho : o.op = .binOp .shl t x y t') (hx : f.val x = some (.int .i64 m)) (hy : f.val y = some (.int k' ((7 * j : Nat) : Int))) (h0 : 0 ≤ m) (h1 : m < 128) (hj : j ≤ 5) : PEv P f s h o (.int .i64 (m * 128 ^ j)) := by
  have := PEv.shl (P := P) (s := s) (h := h) ho hx hy (by omega) (by simp only [IntKind.bits]; omega)
  have hp : (128 : Int) ^ j ≤ 34359738368 := by
    have : ∀ q : Fin 6, (128 : Int) ^ q.val ≤ 34359738368 := by decide
    exact this ⟨j, by omega⟩
  have hp0 : (0 : Int) ≤ 128 ^ j := Int.le_of_lt (Int.pow_pos (by decide))
  have hm : m * 128 ^ j ≤ 127 * 34359738368 := Int.mul_le_mul (by omega) hp hp0 (by decide)
  have hm0 : 0 ≤ m * 128 ^ j := Int.mul_nonneg h0 hp0
  rwa [Int.toNat_natCast, pow7, wrap_in (by omega) (by omega)] at this
theorem or_add (a b j : Nat) (h : a < 2 ^ j) : a ||| (b * 2 ^ j) = a + b * 2 ^ j := by
  rw [Nat.mul_comm b, Nat.or_comm, ← Nat.two_pow_add_eq_or_of_lt h b, Nat.add_comm]
theorem PEv.or7 {t t' : TypeId} {x y : Operand} {a m : Int} {j : Nat} (ho : o.op = .binOp .or t x y t') (hx : f.val x = some (.int .i64 a)) (hy : f.val y = some (.int .i64 (m * 128 ^ j))) (h0 : 0 ≤ a) (h1 : a < 128 ^ j) (h2 : 0 ≤ m) (h3 : m < 128) (hj : j ≤ 5) : PEv P f s h o (.int .i64 (a + m * 128 ^ j)) :=
  PEv.binI ho hx hy fun w => by
    obtain ⟨a, rfl⟩ := Int.eq_ofNat_of_zero_le h0
    obtain ⟨m, rfl⟩ := Int.eq_ofNat_of_zero_le h2
    have hp : (128 : Nat) ^ j ≤ 34359738368 := by
      have : ∀ q : Fin 6, (128 : Nat) ^ q.val ≤ 34359738368 := by decide
      exact this ⟨j, by omega⟩
    have ha : a < 128 ^ j := by have : ((128 ^ j : Nat) : Int) = (128 : Int) ^ j := by simp
                                omega
    have hm : m * 128 ^ j ≤ 127 * 34359738368 := Nat.mul_le_mul (by omega) hp
    have hcast : ((m : Int) * 128 ^ j) = ((m * 128 ^ j : Nat) : Int) := by simp
    have e2 : (128 : Nat) ^ j = 2 ^ (7 * j) := by rw [Nat.pow_mul]
    have e1 : (BitVec.ofInt IntKind.i64.bits (a : Int) ||| BitVec.ofInt IntKind.i64.bits ((m * 128 ^ j : Nat) : Int)).toNat = a + m * 128 ^ j := by
      simp only [BitVec.toNat_or, BitVec.toNat_ofInt]
      simp only [IntKind.bits]
      rw [show (((a : Int) % ((2 ^ 64 : Nat) : Int)).toNat) = a by omega, show ((((m * 128 ^ j : Nat) : Int) % ((2 ^ 64 : Nat) : Int)).toNat) = m * 128 ^ j by omega, e2]
      exact or_add a m (7 * j) (by rw [← e2]; exact ha)
    rw [hcast]
    simp only [binOp, Op.intBits, ne_eq, not_true_eq_false, if_false, Sem.run_pure]
    rw [e1, wrap_in (by omega) (by omega)]
    congr 3
theorem PEv.bitsI {op : BinOp} {t t' : TypeId} {x y : Operand} {k : IntKind} {m n : Int} {r : Int} (ho : o.op = .binOp op t x y t') (hx : f.val x = some (.int k m)) (hy : f.val y = some (.int k n))
    (hop : op = .and ∨ op = .or) (H : ∀ w, (Op.intBits op k m n).run P w = .ok (.int k r) w) : PEv P f s h o (.int k r) :=
  PEv.binI ho hx hy fun w => by rcases hop with rfl | rfl <;> simp [binOp, H]
theorem PEv.not {t : TypeId} {x : Operand} {b : Bool} (ho : o.op = .unOp .not t x) (hx : f.val x = some (.bool b)) : PEv P f s h o (.bool (!b)) := fun a w h1 _ => by
  simp [execOp, ho, h1.eval hx, Op.unary]
theorem PEv.notD {t : TypeId} {x : Operand} {p : Prop} [Decidable p] (ho : o.op = .unOp .not t x) (hx : f.val x = some (.bool (decide p))) : PEv P f s h o (.bool (decide (¬ p))) := fun a w h1 _ => by
  simp [execOp, ho, h1.eval hx, Op.unary]
theorem PEv.convI {t t' : TypeId} {x : Operand} {k k' : IntKind} {n : Int} {d : TypeDesc} [ut : UT P t d] [u : UT P t' (.int k)] (ho : o.op = .convert t t' x) (hx : f.val x = some (.int k' n)) : PEv P f s h o (.int k (k.wrap n)) := fun a w h1 _ => by
  simp [execOp, ho, h1.eval hx, convert, run_underlying u.out, run_underlying ut.out, Conv.intToInt]
theorem PEv.convB {t t' : TypeId} {x : Operand} {k k' : IntKind} {n : Int} {d : TypeDesc} [ut : UT P t d] [u : UT P t' (.int k)] (ho : o.op = .convert t t' x) (hx : f.val x = some (.int k' n)) (h0 : k.min ≤ n) (h1 : n ≤ k.max) : PEv P f s h o (.int k n) := by
  have hw : k.wrap n = n := by
    cases k <;> simp only [IntKind.min, IntKind.max, IntKind.signed, IntKind.bits, IntKind.wrap] at h0 h1 ⊢ <;> simp at h0 h1 ⊢ <;> (try split) <;> omega
  have := PEv.convI (P := P) (f := f) (s := s) (h := h) (o := o) (k := k) ho hx
  rw [hw] at this
  exact this
theorem PEv.conv64 {t t' : TypeId} {x : Operand} {k' : IntKind} {n : Int} {d : TypeDesc} [ut : UT P t d] [u : UT P t' (.int .i64)] (ho : o.op = .convert t t' x) (hx : f.val x = some (.int k' n)) (h0 : -9223372036854775808 ≤ n) (h1 : n ≤ 9223372036854775807) : PEv P f s h o (.int .i64 n) := PEv.convB ho hx h0 h1
theorem PEv.conv8 {t t' : TypeId} {x : Operand} {k' : IntKind} {n : Int} {d : TypeDesc} [ut : UT P t d] [u : UT P t' (.int .i8)] (ho : o.op = .convert t t' x) (hx : f.val x = some (.int k' n)) (h0 : -128 ≤ n) (h1 : n ≤ 127) : PEv P f s h o (.int .i8 n) := PEv.convB ho hx h0 h1
theorem PEv.convS {t t' : TypeId} {x : Operand} {z : ByteArray} [ut : UT P t .string] [u : UT P t' .string] (ho : o.op = .convert t t' x) (hx : f.val x = some (.string z)) : PEv P f s h o (.string z) := fun a w h1 _ => by
  simp [execOp, ho, h1.eval hx, convert, run_underlying u.out, run_underlying ut.out]
theorem PEv.nilCheck {x : Operand} {a0 : Addr} (ho : o.op = .nilCheck x) (hx : f.val x = some (.pointer (some a0))) : PEv P f s h o (.pointer (some a0)) := fun a w h1 _ => by
  simp [execOp, ho, h1.eval hx]
/-- A struct type's field: its offset, its type. -/
class FO (P : Program) (t : TypeId) (i : Nat) (off : outParam Nat) (ft : outParam TypeId) : Prop where
  eq : (match P.underlying t with | some (.struct fs) => (fs[i]?).map fun fd => (fd.offset, fd.type, (P.info? fd.type).map fun i => Nat.blt 0 i.size) | _ => none) = some (off, ft, some true)
theorem FO.out {P : Program} {t : TypeId} {i off : Nat} {ft : TypeId} (fo : FO P t i off ft) : ∃ fs fd inf, P.underlying t = some (.struct fs) ∧ fs[i]? = some fd ∧ fd.offset = off ∧ fd.type = ft ∧ P.info? ft = some inf ∧ inf.size ≠ 0 := by
  have h := fo.eq
  split at h
  · rename_i fs hfs
    obtain ⟨fd, h1, h2⟩ := Option.map_eq_some_iff.1 h
    simp only [Prod.mk.injEq] at h2
    obtain ⟨rfl, rfl, h3⟩ := h2
    obtain ⟨inf, h4, h5⟩ := Option.map_eq_some_iff.1 h3
    exact ⟨fs, fd, inf, hfs, h1, rfl, rfl, h4, by simp [Nat.blt_eq] at h5; omega⟩
  · cases h
theorem PEv.fieldAddr {t ft : TypeId} {x : Operand} {i off : Nat} {a0 : Addr} [fo : FO P t i off ft] (ho : o.op = .fieldAddr t x i) (hx : f.val x = some (.pointer (some a0))) : PEv P f s h o (.pointer (some (a0.add off))) := fun a w h1 _ => by
  obtain ⟨fs, fd, inf, h2, h3, rfl, rfl, h6, h7⟩ := fo.out
  simp [execOp, ho, h1.eval hx, Instr.fieldAt, run_underlying h2, h3, Instr.sureAddr, fieldPlace, sizeOf, typeInfo, h6, h7]
theorem add_row (ad : Addr) (k j : Nat) : (ad.add k).add j = ad.add (k + j) := by
  unfold Addr.add
  by_cases h1 : k = 0 <;> by_cases h2 : j = 0 <;> simp [h1, h2, Nat.add_assoc]
theorem add_blk (g o j : Nat) : (⟨g, o, none⟩ : Addr).add j = ⟨g, o + j, none⟩ := by unfold Addr.add; split <;> simp_all
theorem PEv.fieldAddr0 {t ft : TypeId} {x : Operand} {i off g : Nat} [fo : FO P t i off ft] (ho : o.op = .fieldAddr t x i) (hx : f.val x = some (.pointer (some ⟨g, 0, none⟩))) : PEv P f s h o (.pointer (some ⟨g, off, none⟩)) := by
  have := PEv.fieldAddr (P := P) (s := s) (h := h) ho hx
  rwa [add_blk, Nat.zero_add] at this
theorem PEv.fieldAddrK {t ft : TypeId} {x : Operand} {i off g j k : Nat} [fo : FO P t i off ft] (ho : o.op = .fieldAddr t x i) (hx : f.val x = some (.pointer (some ⟨g, j, none⟩))) (hk : j + off = k) : PEv P f s h o (.pointer (some ⟨g, k, none⟩)) := by
  have := PEv.fieldAddr (P := P) (s := s) (h := h) ho hx
  rwa [add_blk, hk] at this
theorem PEv.fieldAddrR {t ft : TypeId} {x : Operand} {i off k : Nat} {ad : Addr} [fo : FO P t i off ft] (ho : o.op = .fieldAddr t x i) (hx : f.val x = some (.pointer (some (ad.add k)))) : PEv P f s h o (.pointer (some (ad.add (k + off)))) := by
  have := PEv.fieldAddr (P := P) (s := s) (h := h) ho hx
  rwa [add_row] at this
/-! ### Loads -/
theorem loadCellsFrom_run (a0 : Addr) : ∀ (l : List Value) (i : Nat) (acc : Array Value) (w : World), (∀ j u, l[j]? = some u → w.cell? (a0.add (i + j)) = some u) → (loadCellsFrom a0 i l.length acc).run P w = .ok (acc ++ l.toArray) w
  | [], i, acc, w, _ => by simp [loadCellsFrom]
  | v :: l, i, acc, w, hc => by
    have h0 : w.cell? (a0.add i) = some v := by simpa using hc 0 v rfl
    have ih := loadCellsFrom_run a0 l (i + 1) (acc.push v) w (fun j u hj => by rw [Nat.add_assoc, Nat.add_comm 1 j]; exact hc (j + 1) u (by simpa using hj))
    simp only [List.length_cons, loadCellsFrom, load, Sem.run_bind, Sem.run, h0, Result.andThen_ok, ih]
    simp
theorem run_loadCells {a0 : Addr} {l : List Value} {m : Nat} {w : World} (hl : l.length = m) (hc : ∀ j u, l[j]? = some u → w.cell? (a0.add j) = some u) : (loadCells a0 m).run P w = .ok l.toArray w := by
  subst hl
  have := loadCellsFrom_run (P := P) a0 l 0 #[] w (fun j u e => by simpa using hc j u e)
  simpa [loadCells] using this
theorem PEv.load1 {t : TypeId} {x : Operand} {a0 : Addr} {d : TypeDesc} [ut : UT P t d] (ho : o.op = .load t x) (hx : f.val x = some (.pointer (some a0))) (hd : (isAggD d) = false) (hc : ∀ w, Mem s h w → w.cell? a0 = some v) : PEv P f s h o v := fun a w h1 h2 => by
  simp [execOp, ho, h1.eval hx, Instr.loadAt, Instr.sureAddr, loadVar, run_isAgg (P := P) (w := w) (t := t), hd, load, Sem.run, hc w h2]
theorem PEv.loadN {t : TypeId} {x : Operand} {a0 : Addr} {d : TypeDesc} {z : Value} {sz b : Nat} {l : List Value} [ut : UT P t d] [it : IT P t z sz b] (ho : o.op = .load t x) (hx : f.val x = some (.pointer (some a0))) (hd : (isAggD d) = true) (hl : l.length = sz)
    (hc : ∀ w, Mem s h w → ∀ j u, l[j]? = some u → w.cell? (a0.add j) = some u) : PEv P f s h o (.agg l.toArray) := fun a w h1 h2 => by
  have := run_loadCells (P := P) hl (hc w h2)
  simp [execOp, ho, h1.eval hx, Instr.loadAt, Instr.sureAddr, loadVar, run_isAgg (P := P) (w := w) (t := t), run_size (P := P) (w := w) (t := t), hd, this]
theorem cell_blk {w : World} {g i : Nat} {c : Array Value} {e : TypeId} {fr : Nat × Nat} (h : w.heap[g]? = some (.cells c e fr)) : w.cell? ⟨g, i, none⟩ = c[i]? := by simp [World.cell?, h]
/-- A variable's cell, owned. -/
theorem PEv.loadB {t : TypeId} {x : Operand} {g i : Nat} {c : List Value} {e : TypeId} {fr : Nat × Nat} {d : TypeDesc} [ut : UT P t d] (ho : o.op = .load t x) (hx : f.val x = some (.pointer (some ⟨g, i, none⟩))) (hd : (isAggD d) = false)
    (hm : Ent.blk g (.cells c.toArray e fr) ∈ h) (hc : c[i]? = some v) : PEv P f s h o v := PEv.load1 ho hx hd (fun _ m => (cell_blk (m.blk hm)).trans (by simpa using hc))
theorem PEv.loadF {t : TypeId} {x : Operand} {g i : Nat} {c : List Value} {e : TypeId} {fr : Nat × Nat} {d : TypeDesc} [ut : UT P t d] (ho : o.op = .load t x) (hx : f.val x = some (.pointer (some ⟨g, i, none⟩))) (hd : (isAggD d) = false)
    (hm : s g = some (.cells c.toArray e fr)) (hc : c[i]? = some v) : PEv P f s h o v := PEv.load1 ho hx hd (fun _ m => (cell_blk (m.im _ _ hm)).trans (by simpa using hc))
/-- A whole struct, owned. -/
theorem PEv.loadW {t : TypeId} {x : Operand} {g : Nat} {l : List Value} {e : TypeId} {fr : Nat × Nat} {d : TypeDesc} {z : Value} {sz b : Nat} [ut : UT P t d] [it : IT P t z sz b] (ho : o.op = .load t x) (hx : f.val x = some (.pointer (some ⟨g, 0, none⟩))) (hd : (isAggD d) = true)
    (hm : Ent.blk g (.cells l.toArray e fr) ∈ h) (hl : l.length = sz) : PEv P f s h o (.agg l.toArray) :=
  PEv.loadN ho hx hd hl (fun w m j u hj => by rw [add_blk, Nat.zero_add, cell_blk (m.blk hm)]; simpa using hj)
theorem PEv.loadWF {t : TypeId} {x : Operand} {g : Nat} {l : List Value} {e : TypeId} {fr : Nat × Nat} {d : TypeDesc} {z : Value} {sz b : Nat} [ut : UT P t d] [it : IT P t z sz b] (ho : o.op = .load t x) (hx : f.val x = some (.pointer (some ⟨g, 0, none⟩))) (hd : (isAggD d) = true)
    (hm : s g = some (.cells l.toArray e fr)) (hl : l.length = sz) : PEv P f s h o (.agg l.toArray) :=
  PEv.loadN ho hx hd hl (fun w m j u hj => by rw [add_blk, Nat.zero_add, cell_blk (m.im _ _ hm)]; simpa using hj)
/-- A part of a struct, owned. -/
theorem PEv.loadP {t : TypeId} {x : Operand} {g i : Nat} {c l : List Value} {e : TypeId} {fr : Nat × Nat} {d : TypeDesc} {z : Value} {sz b : Nat} [ut : UT P t d] [it : IT P t z sz b] (ho : o.op = .load t x) (hx : f.val x = some (.pointer (some ⟨g, i, none⟩))) (hd : (isAggD d) = true)
    (hm : Ent.blk g (.cells c.toArray e fr) ∈ h) (hl : (c.drop i).take sz = l) (hs : l.length = sz) : PEv P f s h o (.agg l.toArray) :=
  PEv.loadN ho hx hd hs (fun w m j u hj => by
    rw [add_blk, cell_blk (m.blk hm)]
    subst hl
    rw [List.getElem?_take] at hj
    split at hj
    · simpa using hj
    · cases hj)
/-- A cell of a slice. -/
theorem PEv.loadS {t : TypeId} {x : Operand} {A : Option Addr} {n c sz j : Nat} {cs : List Value} {d : TypeDesc} [ut : UT P t d] (ho : o.op = .load t x) (hx : f.val x = some (.pointer (some ((A.getD default).add j)))) (hd : (isAggD d) = false)
    (hs : Sl s A n c sz cs) (hj : cs[j]? = some v) : PEv P f s h o v := PEv.load1 ho hx hd (fun _ m => m.cell (hs.at_ j v hj).2)
/-- An element of a slice, a struct. -/
theorem PEv.loadE {t : TypeId} {x : Operand} {A : Option Addr} {n c sz i : Nat} {cs l : List Value} {d : TypeDesc} {z : Value} {b : Nat} [ut : UT P t d] [it : IT P t z sz b] (ho : o.op = .load t x) (hx : f.val x = some (.pointer (some ((A.getD default).add (i * sz))))) (hd : (isAggD d) = true)
    (hs : Sl s A n c sz cs) (hl : (cs.drop (i * sz)).take sz = l) (hlen : l.length = sz) : PEv P f s h o (.agg l.toArray) :=
  PEv.loadN ho hx hd hlen (fun w m j u hj => by
    rw [add_row]
    subst hl
    rw [List.getElem?_take] at hj
    split at hj
    · exact m.cell (hs.at_ _ u (by simpa using hj)).2
    · cases hj)
theorem PEv.indexAddr {t e : TypeId} {x y : Operand} {A : Option Addr} {n c sz' : Nat} {k : IntKind} {i : Int} {cs : List Value} {z : Value} {sz b : Nat} [ut : UT P t (.slice e)] [it : IT P e z sz b] (ho : o.op = .indexAddr t x y) (hx : f.val x = some (.slice A n c)) (hy : f.val y = some (.int k i))
    (hs : Sl s A n c sz' cs) (hz : 0 < sz') (h0 : 0 ≤ i) (h1 : i < n) : PEv P f s h o (.pointer (some ((A.getD default).add (i.toNat * sz)))) := fun a w h2 _ => by
  have hA : A.isSome = true := by
    have hlen : 0 < cs.length := by rw [hs.len]; exact Nat.mul_pos (by omega) hz
    exact (hs.at_ 0 cs[0] (by simp)).1
  obtain ⟨ad, rfl⟩ := Option.isSome_iff_exists.1 hA
  simp [execOp, ho, h2.eval hx, h2.eval hy, Instr.indexAt, asIntOf, run_underlying ut.out, run_size (P := P) (w := w) (t := e), h0, h1]
/-- A part of a struct value. -/
theorem PEv.field1 {t ft : TypeId} {x : Operand} {i off : Nat} {cs : List Value} {d : TypeDesc} [fo : FO P t i off ft] [uf : UT P ft d] (ho : o.op = .field t x i) (hx : f.val x = some (.agg cs.toArray)) (hd : isAggD d = false) (hv : cs[off]? = some v) : PEv P f s h o v := fun a w h1 _ => by
  obtain ⟨fs, fd, inf, h2, h3, rfl, rfl, h6, h7⟩ := fo.out
  simp [execOp, ho, h1.eval hx, Instr.field, run_underlying h2, h3, asAgg, part, run_isAgg (P := P) (w := w) (t := fd.type), hd, hv]
theorem PEv.fieldN {t ft : TypeId} {x : Operand} {i off : Nat} {cs l : List Value} {d : TypeDesc} {z : Value} {sz b : Nat} [fo : FO P t i off ft] [uf : UT P ft d] [it : IT P ft z sz b] (ho : o.op = .field t x i) (hx : f.val x = some (.agg cs.toArray)) (hd : isAggD d = true)
    (hv : (cs.drop off).take sz = l) : PEv P f s h o (.agg l.toArray) := fun a w h1 _ => by
  subst hv
  obtain ⟨fs, fd, inf, h2, h3, rfl, rfl, h6, h7⟩ := fo.out
  simp [execOp, ho, h1.eval hx, Instr.field, run_underlying h2, h3, asAgg, part, run_isAgg (P := P) (w := w) (t := fd.type), run_size (P := P) (w := w) (t := fd.type), hd]
theorem PEv.extract {x : Operand} {i : Nat} {vs : List Value} (ho : o.op = .extract x i) (hx : f.val x = some (.tuple vs.toArray)) (hv : vs[i]? = some v) : PEv P f s h o v := fun a w h1 _ => by
  simp [execOp, ho, h1.eval hx, Instr.extract, hv]
/-- A struct type's places. -/
class ST (P : Program) (t : TypeId) (places : outParam (List (Nat × Nat))) (zero : outParam (List Value)) : Prop where
  eq : (match P.underlying t with | some (.struct fs) => fs.toList.mapM fun fd => (P.info? fd.type).map fun i => (fd.offset, i.size) | _ => none) = some places
  z : ∃ sz b, IT P t (.agg zero.toArray) sz b
theorem run_places : ∀ (fs : List Field) (pl : List (Nat × Nat)) (w : World), (fs.mapM fun fd => (P.info? fd.type).map fun i => (fd.offset, i.size)) = some pl → Sem.run P (fs.mapM fun (f : Field) => Prod.mk f.offset <$> sizeOf f.type) w = .ok pl w
  | [], pl, w, h => by
    simp at h
    subst h
    rfl
  | fd :: fs, pl, w, h => by
    simp only [List.mapM_cons, Option.bind_eq_bind, Option.bind_eq_some_iff] at h
    obtain ⟨x, h1, y, h2, h3⟩ := h
    obtain ⟨i, h4, h5⟩ := Option.map_eq_some_iff.1 h1
    simp at h3
    subst h3
    have ih := run_places fs y w h2
    simp only [List.mapM_cons, Sem.run_bind, Sem.run_map, sizeOf, typeInfo, Sem.run_pure]
    simp [h4, h5] at ih ⊢
    simp only [sizeOf, typeInfo] at ih
    simp at ih
    rw [ih]
    simp [← h5]
theorem PEv.build {t : TypeId} {ps : List (Nat × Operand)} {vs : List (Nat × Value)} {pl : List (Nat × Nat)} {zero : List Value} {cs : List Value} [st : ST P t pl zero] (ho : o.op = .build t ps.toArray) (hp : f.parts ps = some vs)
    (hf : Instr.fill (fun i => pl[i]?) zero.toArray vs = some cs.toArray) : PEv P f s h o (.agg cs.toArray) := fun a w h1 _ => by
  obtain ⟨sz, b, it⟩ := st.z
  have heq := st.eq
  split at heq
  · rename_i fs hfs
    have e := h1.eparts hp
    have hr := run_places (P := P) fs.toList pl w heq
    have hr2 : Sem.run P (fs.mapM fun (f : Field) => Prod.mk f.offset <$> sizeOf f.type) w = .ok pl.toArray w := by
      rw [Array.mapM_eq_mapM_toList, Sem.run_map, hr]
      rfl
    simp [execOp, ho, Instr.build, run_zero (P := P) (t := t), run_underlying hfs, hr2, Value.cells, e, hf]
  · cases heq
theorem PEv.makeFunc {fn : _root_.Go.Fn} {xs ys : List Operand} {us vs : List Value} (ho : o.op = .makeFunc fn xs.toArray ys.toArray) (hx : f.vals xs = some us) (hy : f.vals ys = some vs) : PEv P f s h o (.func fn us.toArray vs.toArray) := fun a w h1 _ => by
  have e := h1.evals hx
  have e' := h1.evals hy
  simp [execOp, ho, Instr.makeFunc, e, e']
theorem PEv.makeIface {t : TypeId} {x : Operand} {d : TypeDesc} [ut : UT P t d] (ho : o.op = .makeInterface t x) (hx : f.val x = some v) (hd : ∀ ms, d ≠ .interface ms) : PEv P f s h o (.iface t v) := fun a w h1 _ => by
  simp only [execOp, ho, h1.eval hx, Instr.makeInterface, Sem.run_bind, run_underlying ut.out, Result.andThen_ok]
  cases d <;> first | rfl | exact absurd rfl (hd _)
theorem PEv.lenS {t : TypeId} {x : Operand} {A : Option Addr} {n c : Nat} {e : TypeId} [ut : UT P t (.slice e)] (ho : o.op = .call { callee := .builtin .len, args := #[x], argTypes := #[t] }) (hx : f.val x = some (.slice A n c)) : PEv P f s h o (.int .i64 n) := fun a w h1 _ => by
  simp [execOp, ho, resolve, invoke, builtin, h1.eval hx, Builtin.len_, run_underlying ut.out, goInt]
theorem PEv.lenStr {t : TypeId} {x : Operand} {z : ByteArray} [ut : UT P t .string] (ho : o.op = .call { callee := .builtin .len, args := #[x], argTypes := #[t] }) (hx : f.val x = some (.string z)) : PEv P f s h o (.int .i64 z.size) := fun a w h1 _ => by
  simp [execOp, ho, resolve, invoke, builtin, h1.eval hx, Builtin.len_, run_underlying ut.out, goInt]
theorem PEv.max2 {t t' : TypeId} {x y : Operand} {k : IntKind} {m n : Int} (ho : o.op = .call { callee := .builtin .max, args := #[x, y], argTypes := #[t, t'] }) (hx : f.val x = some (.int k m)) (hy : f.val y = some (.int k n)) : PEv P f s h o (.int k (if m < n then n else m)) := fun a w h1 _ => by
  simp [execOp, ho, resolve, invoke, builtin, h1.eval hx, h1.eval hy, Builtin.max_, Builtin.max2]
theorem PEv.min2 {t t' : TypeId} {x y : Operand} {k : IntKind} {m n : Int} (ho : o.op = .call { callee := .builtin .min, args := #[x, y], argTypes := #[t, t'] }) (hx : f.val x = some (.int k m)) (hy : f.val y = some (.int k n)) : PEv P f s h o (.int k (if n < m then n else m)) := fun a w h1 _ => by
  simp [execOp, ho, resolve, invoke, builtin, h1.eval hx, h1.eval hy, Builtin.min_, Builtin.min2]
theorem str_eq (a b : ByteArray) : (a.toList == b.toList) = decide (a = b) := by
  rw [ByteArray.toList_eq, ByteArray.toList_eq]
  by_cases e : a = b
  · simp [e]
  · simp only [e, decide_false]
    have : a.data.toList ≠ b.data.toList := fun h => e (by cases a; cases b; simp_all)
    simpa using this
theorem run_eqGuard_str {op : BinOp} {t : TypeId} {x y : Operand} {m n : ByteArray} {w : World} : (eqGuard op t x y (.string m) (.string n)).run P w = .ok () w := by
  unfold eqGuard
  cases op <;> simp
theorem PEv.eqStr {t t' : TypeId} {x y : Operand} {m n : ByteArray} (ho : o.op = .binOp .eql t x y t') (hx : f.val x = some (.string m)) (hy : f.val y = some (.string n)) : PEv P f s h o (.bool (decide (m = n))) := fun a w h1 _ => by
  simp [execOp, ho, h1.eval hx, h1.eval hy, run_eqGuard_str, binOp, Op.stringOp, str_eq]
theorem PEv.neStr {t t' : TypeId} {x y : Operand} {m n : ByteArray} (ho : o.op = .binOp .neq t x y t') (hx : f.val x = some (.string m)) (hy : f.val y = some (.string n)) : PEv P f s h o (.bool (decide (m ≠ n))) := fun a w h1 _ => by
  simp [execOp, ho, h1.eval hx, h1.eval hy, run_eqGuard_str, binOp, Op.stringOp, str_eq]
theorem PEv.addStr {t t' : TypeId} {x y : Operand} {m n : ByteArray} (ho : o.op = .binOp .add t x y t') (hx : f.val x = some (.string m)) (hy : f.val y = some (.string n)) (hs : m.size + n.size ≤ 9223372036854775807) : PEv P f s h o (.string (m ++ n)) := fun a w h1 _ => by
  have hmax : IntKind.i64.max = 9223372036854775807 := rfl
  have : ¬ (((m.size + n.size : Nat) : Int) > IntKind.i64.max) := by rw [hmax]; omega
  simp only [execOp, ho, h1.eval hx, h1.eval hy, Sem.run_bind, run_eqGuard_str, Result.andThen_ok, binOp, Op.stringOp, if_neg this, Sem.run_pure]
theorem run_equalIn_bool {d : Nat} {t : TypeId} {m n : Bool} {w : World} [ut : UT P t .bool] : (Op.equalIn (d + 1) t (.bool m) (.bool n)).run P w = .ok (m == n) w := by
  simp only [Op.equalIn, Sem.run_bind, run_underlying ut.out, Result.andThen_ok, Sem.run_pure]
theorem run_equalIn_nil {d : Nat} {t e : TypeId} {a0 : Addr} {w : World} [ut : UT P t (.pointer e)] : (Op.equalIn (d + 1) t (.pointer (some a0)) (.pointer none)).run P w = .ok false w := by
  simp only [Op.equalIn, Sem.run_bind, run_underlying ut.out, Result.andThen_ok, Sem.run_pure]
theorem PEv.eqB {t t' : TypeId} {x y : Operand} {m n : Bool} [ut : UT P t .bool] (ho : o.op = .binOp .eql t x y t') (hx : f.val x = some (.bool m)) (hy : f.val y = some (.bool n)) : PEv P f s h o (.bool (m == n)) := fun a w h1 _ => by
  simp only [execOp, ho, h1.eval hx, h1.eval hy, eqGuard, binOp, Op.equal, Op.maxDepth, Sem.run_bind, run_equalIn_bool (P := P) (d := 9999) (t := t), Bool.not_true, Bool.false_eq_true, if_false, Sem.run_pure, Result.andThen_ok]
theorem PEv.neB {t t' : TypeId} {x y : Operand} {m n : Bool} [ut : UT P t .bool] (ho : o.op = .binOp .neq t x y t') (hx : f.val x = some (.bool m)) (hy : f.val y = some (.bool n)) : PEv P f s h o (.bool (!(m == n))) := fun a w h1 _ => by
  simp only [execOp, ho, h1.eval hx, h1.eval hy, eqGuard, binOp, Op.equal, Op.maxDepth, Sem.run_bind, run_equalIn_bool (P := P) (d := 9999) (t := t), Bool.not_true, Bool.false_eq_true, if_false, Sem.run_pure, Result.andThen_ok]
theorem PEv.neBF {t t' : TypeId} {x y : Operand} {m n : Bool} [ut : UT P t .bool] (ho : o.op = .binOp .neq t x y t') (hx : f.val x = some (.bool m)) (hy : f.val y = some (.bool n)) (he : m = n) : PEv P f s h o (.bool false) := by
  subst he
  have := PEv.neB (P := P) (s := s) (h := h) ho hx hy
  simpa using this
theorem PEv.eqBT {t t' : TypeId} {x y : Operand} {m n : Bool} [ut : UT P t .bool] (ho : o.op = .binOp .eql t x y t') (hx : f.val x = some (.bool m)) (hy : f.val y = some (.bool n)) (he : m = n) : PEv P f s h o (.bool true) := by
  subst he
  have := PEv.eqB (P := P) (s := s) (h := h) ho hx hy
  simpa using this
theorem PEv.eqNil {t t' e : TypeId} {x y : Operand} {a0 : Addr} [ut : UT P t (.pointer e)] (ho : o.op = .binOp .eql t x y t') (hx : f.val x = some (.pointer (some a0))) (hy : f.val y = some (.pointer none)) : PEv P f s h o (.bool false) := fun a w h1 _ => by
  simp only [execOp, ho, h1.eval hx, h1.eval hy, eqGuard, binOp, Op.equal, Op.maxDepth, Sem.run_bind, run_equalIn_nil (P := P) (d := 9999) (t := t), Bool.not_true, Bool.false_eq_true, if_false, Sem.run_pure, Result.andThen_ok]
theorem PEv.neNil {t t' e : TypeId} {x y : Operand} {a0 : Addr} [ut : UT P t (.pointer e)] (ho : o.op = .binOp .neq t x y t') (hx : f.val x = some (.pointer (some a0))) (hy : f.val y = some (.pointer none)) : PEv P f s h o (.bool true) := fun a w h1 _ => by
  simp only [execOp, ho, h1.eval hx, h1.eval hy, eqGuard, binOp, Op.equal, Op.maxDepth, Sem.run_bind, run_equalIn_nil (P := P) (d := 9999) (t := t), Bool.not_true, Bool.not_false, Bool.false_eq_true, if_false, Sem.run_pure, Result.andThen_ok]
theorem PEv.indexStr {t : TypeId} {x y : Operand} {z : ByteArray} {k : IntKind} {i : Int} {b : UInt8} [ut : UT P t .string] (ho : o.op = .index t x y) (hx : f.val x = some (.string z)) (hy : f.val y = some (.int k i)) (h0 : 0 ≤ i) (hb : z.data.toList[i.toNat]? = some b) : PEv P f s h o (.int .u8 b.toNat) := fun a w h1 _ => by
  have : z[i.toNat]? = some b := by
    have hlt := (List.getElem?_eq_some_iff.1 hb).1
    rw [Array.length_toList] at hlt
    have hlt' : i.toNat < z.size := hlt
    rw [getElem?_pos z i.toNat hlt']
    have h2 := (List.getElem?_eq_some_iff.1 hb).2
    rw [← h2]
    rfl
  simp [execOp, ho, h1.eval hx, h1.eval hy, Instr.index, asIntOf, run_underlying ut.out, h0, this]
/-! ### Cuts -/
theorem run_bound {i : Int} {y : Nat} {k : IntKind} {c : BoundsCode} {w : World} (h0 : 0 ≤ i) (h1 : i ≤ y) : (Instr.sliceBound (.int k i) y c).run P w = .ok i.toNat w := by
  simp [Instr.sliceBound, asIntOf, h0, h1]
theorem PEv.cutStr {t : TypeId} {x y y' : Operand} {z : ByteArray} {k k' : IntKind} {i j : Int} [ut : UT P t .string] (ho : o.op = .slice t x (some y) (some y') none) (hx : f.val x = some (.string z)) (hy : f.val y = some (.int k i)) (hy' : f.val y' = some (.int k' j)) (h0 : 0 ≤ i) (h1 : i ≤ j) (h2 : j ≤ z.size) :
    PEv P f s h o (.string (z.extract i.toNat j.toNat)) := fun a w h3 _ => by
  simp [execOp, ho, h3.eval hx, h3.eval hy, h3.eval hy', Instr.sliceAt, Instr.slice, Instr.sliceBounds, run_underlying ut.out, run_bound (P := P) (show 0 ≤ j by omega) h2, run_bound (P := P) (y := j.toNat) h0 (by omega)]
theorem PEv.cutStrTo {t : TypeId} {x y' : Operand} {z : ByteArray} {k' : IntKind} {j : Int} [ut : UT P t .string] (ho : o.op = .slice t x none (some y') none) (hx : f.val x = some (.string z)) (hy' : f.val y' = some (.int k' j)) (h0 : 0 ≤ j) (h2 : j ≤ z.size) :
    PEv P f s h o (.string (z.extract 0 j.toNat)) := fun a w h3 _ => by
  simp [execOp, ho, h3.eval hx, h3.eval hy', Instr.sliceAt, Instr.slice, Instr.sliceBounds, run_underlying ut.out, run_bound (P := P) h0 h2]
theorem PEv.cutStrFrom {t : TypeId} {x y : Operand} {z : ByteArray} {k : IntKind} {i : Int} [ut : UT P t .string] (ho : o.op = .slice t x (some y) none none) (hx : f.val x = some (.string z)) (hy : f.val y = some (.int k i)) (h0 : 0 ≤ i) (h2 : i ≤ z.size) :
    PEv P f s h o (.string (z.extract i.toNat z.size)) := fun a w h3 _ => by
  simp [execOp, ho, h3.eval hx, h3.eval hy, Instr.sliceAt, Instr.slice, Instr.sliceBounds, run_underlying ut.out, run_bound (P := P) h0 h2]
/-- xs[:j:m]. -/
theorem PEv.cut3 {t e : TypeId} {x y' y'' : Operand} {A : Option Addr} {n c : Nat} {k' k'' : IntKind} {j m : Int} {z : Value} {sz b : Nat} [ut : UT P t (.slice e)] [it : IT P e z sz b] (ho : o.op = .slice t x none (some y') (some y'')) (hx : f.val x = some (.slice A n c)) (hy' : f.val y' = some (.int k' j)) (hy'' : f.val y'' = some (.int k'' m))
    (h0 : 0 ≤ j) (h1 : j ≤ m) (h2 : m ≤ c) : PEv P f s h o (.slice A j.toNat m.toNat) := fun a w h3 _ => by
  have e0 : ∀ ad : Addr, ad.add 0 = ad := fun ad => by simp [Addr.add]
  have : (if m.toNat = 0 then A else A.map (·.add (0 * sz))) = A := by split <;> simp [e0]
  simp only [execOp, ho, h3.eval hx, Option.map_some, Option.map_none, h3.eval hy', h3.eval hy'', Instr.sliceAt, Instr.slice, Instr.sliceBounds, run_underlying ut.out, run_bound (P := P) (show 0 ≤ m by omega) h2, run_bound (P := P) (y := m.toNat) h0 (by omega), run_size (P := P) (w := w) (t := e), Sem.run_bind, Result.andThen_ok, Sem.run_pure, Nat.sub_zero]
  rw [this]
theorem PEv.cut3N {t e : TypeId} {x y' y'' : Operand} {A : Option Addr} {n c : Nat} {k' k'' : IntKind} {j m : Nat} {z : Value} {sz b : Nat} [ut : UT P t (.slice e)] [it : IT P e z sz b] (ho : o.op = .slice t x none (some y') (some y'')) (hx : f.val x = some (.slice A n c)) (hy' : f.val y' = some (.int k' j)) (hy'' : f.val y'' = some (.int k'' m))
    (h1 : j ≤ m) (h2 : m ≤ c) : PEv P f s h o (.slice A j m) := by
  have := PEv.cut3 (P := P) (s := s) (h := h) ho hx hy' hy'' (by omega) (by omega) (by omega)
  rwa [Int.toNat_natCast, Int.toNat_natCast] at this
end
end Go.Proofs.Ytnndjobhcncanaa
