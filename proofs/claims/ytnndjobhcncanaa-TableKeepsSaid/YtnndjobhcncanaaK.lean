/- The calculus, sixth part: stores of many cells, cuts, arrays, '==' of structs, loops told round by round. No statement of the seat is proved here. -/
import Derived.Test.YtnndjobhcncanaaE
import Derived.Laws.StructEq
namespace Go.Proofs.Ytnndjobhcncanaa
open Go.RowKit
section
variable {P : Program} {C : Ctx} {n : Nat} {k : List Item} {f : Fr} {s : Store} {h : List Ent} {ops : Array Oper} {os : List Oper} {o : Oper} {sS : Store} {hS : List Ent} {ds : List Nat} {m : Nat} {l : Array Bool} {v : Value}
theorem G.unroll {c : Code} (H : G P C n (.code c :: .inLoop c :: k) f s h) : G P C n (.code (.loop c) :: k) f s h := G.of_step (fun _ _ _ _ => step_loop) H

/-- A slot's value, told anew. -/
theorem GL.re (d : Nat) (v : Value) (H : GL P C n ops os k ((d, v) :: f) s h) (hv : f.get d = some v := by exact rfl) : GL P C n ops os k f s h := fun is hi a w h1 h2 h3 h4 => by
  refine H is hi a w h1 (fun i u e => ?_) h3 h4
  simp only [Fr.get] at e
  cases hb : Nat.beq i d with
  | true => rw [hb] at e; simp at e; subst e; rw [Nat.eq_of_beq_eq_true hb]; exact h2 d _ hv
  | false => rw [hb] at e; exact h2 i u e
theorem G.re {todo : List Item} (d : Nat) (v : Value) (H : G P C n todo ((d, v) :: f) s h) (hv : f.get d = some v := by exact rfl) : G P C n todo f s h := fun a w h1 h2 h3 h4 => by
  refine H a w h1 (fun i u e => ?_) h3 h4
  simp only [Fr.get] at e
  cases hb : Nat.beq i d with
  | true => rw [hb] at e; simp at e; subst e; rw [Nat.eq_of_beq_eq_true hb]; exact h2 d _ hv
  | false => rw [hb] at e; exact h2 i u e

/-! ### Stores -/
def setL : List Value → Nat → List Value → List Value
  | c, _, [] => c
  | c, i, v :: l => setL (c.set i v) (i + 1) l
theorem store_cur {w : World} {g i : Nat} {c : List Value} {e : TypeId} {h2 : List Ent} (c0 : Cur w s h s (.blk g (.cells c.toArray e (0, 0)) :: h2) w) (hi : i < c.length) (hv : v.oneCell' = true) :
    (store ⟨g, i, none⟩ v).run P w = .ok () (w.setCell ⟨g, i, none⟩ v) ∧ Cur w s h s (.blk g (.cells (c.set i v).toArray e (0, 0)) :: h2) (w.setCell ⟨g, i, none⟩ v) := by
  have hb : w.heap[g]? = some (.cells c.toArray e (0, 0)) := c0.mem.own (.blk g _) (List.mem_cons_self ..)
  have hcell : w.cell? ⟨g, i, none⟩ = some c[i] := by rw [cell_blk hb]; simp [hi]
  have hfr : w.frozen? ⟨g, i, none⟩ = false := by simp [World.frozen?, hb]
  refine ⟨by rw [run_store P w ⟨g, i, none⟩ v .plain hv, hcell]; simp [hfr], ?_⟩
  have hblk : (w.setCell ⟨g, i, none⟩ v).heap[g]? = some (.cells (c.set i v).toArray e (0, 0)) := by
    simp only [World.setCell, Array.getElem?_modify, if_true, hb, Option.map_some]
    simp
  have d : Cur w s [.blk g (.cells c.toArray e (0, 0))] s [.blk g (.cells (c.set i v).toArray e (0, 0))] (w.setCell ⟨g, i, none⟩ v) := by
    have m1 := c0.mem.sub (h' := [.blk g (.cells c.toArray e (0, 0))]) (by simp) (Store.le.refl _)
    refine ⟨⟨fun k ob hk => ?_, fun x hx => ?_, by simp [keys, Ent.keys], m1.dj⟩, ⟨rfl, rfl, rfl, by simp [World.setCell], fun k hk hkg => ?_⟩, Store.le.refl _, fun _ h => .inl h, fun _ h => .inl h⟩
    · have hne : k ≠ g := fun e => by
        have := m1.dj g (by simp [keys, Ent.keys])
        rw [← e, hk] at this
        cases this
      exact (Below.heap_setCell w ⟨g, i, none⟩ v k hne).trans (m1.im k ob hk)
    · simp at hx
      subst hx
      exact hblk
    · exact Below.heap_setCell w ⟨g, i, none⟩ v k (by simpa [keys, Ent.keys] using hkg)
  exact Cur.step (h1 := [_]) c0 d
theorem storeCells_cur {g : Nat} {e : TypeId} {h2 : List Ent} : ∀ (l c : List Value) (i j : Nat) (w0 w : World), Cur w0 s h s (.blk g (.cells c.toArray e (0, 0)) :: h2) w → i + j + l.length ≤ c.length → (l.all fun v => v.oneCell') = true →
    ∃ w', (storeCells ⟨g, i, none⟩ l j).run P w = .ok () w' ∧ Cur w0 s h s (.blk g (.cells (setL c (i + j) l).toArray e (0, 0)) :: h2) w'
  | [], c, i, j, w0, w, h0, _, _ => ⟨w, by simp [storeCells], h0⟩
  | v :: l, c, i, j, w0, w, h0, hl, hv => by
    simp only [List.all_cons, Bool.and_eq_true] at hv
    simp only [List.length_cons] at hl
    obtain ⟨h3, h4⟩ := store_cur (P := P) (s := s) (i := i + j) (v := v) (Cur.start h0.mem) (by omega) hv.1
    obtain ⟨w', h5, h6⟩ := storeCells_cur l (c.set (i + j) v) i (j + 1) w0 _ (Cur.after h0 h4) (by rw [List.length_set]; omega) hv.2
    refine ⟨w', ?_, by rw [setL, Nat.add_assoc]; exact h6⟩
    simp only [storeCells, Sem.run_bind, add_blk, h3, Result.andThen_ok]
    exact h5
theorem Eff.storeN {t : TypeId} {x y : Operand} {g i : Nat} {c c' l : List Value} {e : TypeId} {z : Value} {sz b : Nat} {h2 : List Ent} [it : IT P t z sz b] (ho : o.op = .store t x y) (hx : f.val x = some (.pointer (some ⟨g, i, none⟩))) (hy : f.val y = some (.agg l.toArray)) (hv : (l.all fun v => v.oneCell') = true)
    (hm : Pick (.blk g (.cells c.toArray e (0, 0))) h h2) (hi : i + l.length ≤ c.length) (hl : l.length = sz) (hc : setL c i l = c') :
    Eff P f s h o (fun e' s' h' => e' = .returned undef ∧ s' = s ∧ h' = .blk g (.cells c'.toArray e (0, 0)) :: h2) :=
  Eff.of_skip fun a w h1 m => by
    obtain ⟨w', h3, h4⟩ := storeCells_cur (P := P) l c i 0 w w ((Cur.start m).perm hm.perm) (by omega) hv
    subst hc
    refine ⟨s, _, w', ?_, ⟨rfl, rfl, rfl⟩, h4⟩
    simp only [execOp, ho, h1.eval hx, h1.eval hy, Instr.storeAt, Instr.sureAddr, storeVar, Sem.run_bind, Sem.run_pure, Result.andThen_ok, run_size (P := P) (t := t), Value.cells]
    simp [hl, h3]
theorem GL.storeN {t : TypeId} {x y : Operand} {g i : Nat} {c c' l : List Value} {e : TypeId} {z : Value} {sz b : Nat} {h2 : List Ent} [it : IT P t z sz b] (H : GL P C n ops os k f s (.blk g (.cells c'.toArray e (0, 0)) :: h2)) (ho : o.op = .store t x y := by exact rfl) (hx : f.val x = some (.pointer (some ⟨g, i, none⟩)) := by exact rfl) (hy : f.val y = some (.agg l.toArray) := by exact rfl)
    (hv : (l.all fun v => v.oneCell') = true := by exact rfl) (hm : Pick (.blk g (.cells c.toArray e (0, 0))) h h2 := by (repeat (first | exact Pick.head | apply Pick.tail))) (hi : Nat.ble (i + l.length) c.length = true := by exact rfl) (hl : l.length = sz := by exact rfl) (hc : setL c i l = c' := by exact rfl) (hd : o.dst = none := by exact rfl) (hw : Wants ops f o true := by first | exact Wants.all rfl | exact Wants.at_ rfl rfl rfl rfl) : GL P C n ops (o :: os) k f s h :=
  GL.eff0 hd hw (Eff.storeN ho hx hy hv hm (Nat.le_of_ble_eq_true hi) hl hc) (by rintro v s' h' ⟨_, rfl, rfl⟩ _; exact H) (by rintro _ _ _ ⟨e, _⟩; cases e)

/-! ### Slices of one struct -/
theorem fill_go (off : Nat) : ∀ (l : List Value) (k : Nat) (a : Array Value), off + k + l.length ≤ a.size → ((l.zipIdx k).foldl (fun cs (p : Value × Nat) => cs.setIfInBounds (off + p.2) p.1) a).toList = a.toList.take (off + k) ++ l ++ a.toList.drop (off + k + l.length)
  | [], k, a, _ => by simp
  | v :: l, k, a, h => by
    simp only [List.length_cons] at h
    rw [List.zipIdx_cons, List.foldl_cons, fill_go off l (k + 1) _ (by simp; omega)]
    have hlt : off + k < a.toList.length := by simp; omega
    rw [Array.toList_setIfInBounds, List.set_eq_take_append_cons_drop, if_pos hlt]
    have hl : (a.toList.take (off + k)).length = off + k := by rw [List.length_take]; omega
    have e1 : (a.toList.take (off + k) ++ v :: a.toList.drop (off + k + 1)).take (off + (k + 1)) = a.toList.take (off + k) ++ [v] := by
      rw [List.take_append, hl, List.take_take, show off + (k + 1) - (off + k) = 1 from by omega, Nat.min_eq_right (by omega)]
      rfl
    have e2 : (a.toList.take (off + k) ++ v :: a.toList.drop (off + k + 1)).drop (off + (k + 1) + l.length) = a.toList.drop (off + k + (v :: l).length) := by
      rw [List.drop_append, hl, List.drop_eq_nil_of_le (by omega), List.nil_append, show off + (k + 1) + l.length - (off + k) = l.length + 1 from by omega, List.drop_succ_cons, List.drop_drop]
      congr 1
      simp only [List.length_cons]
      omega
    rw [e1, e2]
    simp
theorem fill_one {cells : Array Value} {l : List Value} {sz : Nat} (h : cells.size = l.length) (hl : l.length = sz) : Instr.fill (fun i => some (i * sz, sz)) cells [(0, .agg l.toArray)] = some l.toArray := by
  subst hl
  have hn : ¬ ((Value.agg l.toArray).cells.size ≠ l.length || 0 * l.length + (Value.agg l.toArray).cells.size > cells.size) = true := by
    simp [Value.cells, h]
  simp only [Instr.fill, hn]
  have hg := fill_go (0 * l.length) l 0 cells (by omega)
  rw [show (Value.agg l.toArray).cells = l.toArray from rfl]
  refine congrArg some (Array.ext' ?_)
  rw [← Array.foldl_toList, Array.toList_zipIdx]
  rw [show l.toArray.toList = l from rfl]
  rw [hg]
  have h2 : cells.toList.length = l.length := by simpa using h
  simp [← h2]
theorem GL.litA {t e : TypeId} {x : Operand} {xs : List Value} {z : Value} {sz b : Nat} {d : Tmp} [ut : UT P t (.slice e)] [it : IT P e z sz b] (ho : o.op = .buildSlice t 1 #[(0, x)]) (H : ∀ A s', s.le s' → Sl s' A 1 1 sz xs → GL P C n ops os k ((d, .slice A 1 1) :: f) s' h) (hx : f.val x = some (.agg xs.toArray) := by exact rfl)
    (hl : xs.length = sz := by exact rfl) (hz : Nat.ble sz 1000 = true := by exact rfl) (hz0 : Nat.blt 0 sz = true := by exact rfl) (hd : o.dst = some d := by exact rfl) (hw : Wants ops f o true := by first | exact Wants.all rfl | exact Wants.at_ rfl rfl rfl rfl) (hn : Nat.blt d n = true := by exact rfl) : GL P C n ops (o :: os) k f s h :=
  GL.eff hd hw (Eff.buildSlice (ps := [(0, x)]) (vs := [(0, .agg xs.toArray)]) (cs := xs) ho (by simp [Fr.parts, hx]) (by have := Nat.le_of_ble_eq_true hz; omega) (by rw [Nat.blt_eq] at hz0; omega)
    (fill_one (by simp [hl]) hl) (by omega)) hn (by rintro v s' h' ⟨A, e, rfl, hs⟩ hle; cases e; exact H A s' hle hs) (by rintro _ _ _ ⟨A, e, _⟩; cases e)

/-! ### xs[i:j] -/
theorem PEv.cut2 {t e : TypeId} {x y y' : Operand} {A : Option Addr} {n c : Nat} {k k' : IntKind} {i j : Int} {z : Value} {sz b : Nat} [ut : UT P t (.slice e)] [it : IT P e z sz b] (ho : o.op = .slice t x (some y) (some y') none) (hx : f.val x = some (.slice A n c)) (hy : f.val y = some (.int k i)) (hy' : f.val y' = some (.int k' j))
    (h0 : 0 ≤ i) (h1 : i ≤ j) (h2 : j ≤ c) (hne : i ≠ c) : PEv P f s h o (.slice (A.map (·.add (i.toNat * sz))) (j.toNat - i.toNat) (c - i.toNat)) := fun a w h3 _ => by
  have : ¬ (c = i.toNat) := by omega
  simp only [execOp, ho, h3.eval hx, Option.map_some, Option.map_none, h3.eval hy', h3.eval hy, Instr.sliceAt, Instr.slice, Instr.sliceBounds, run_underlying ut.out, run_bound (P := P) (show 0 ≤ j by omega) h2, run_bound (P := P) (y := j.toNat) h0 (show i ≤ (j.toNat : Int) by omega), run_size (P := P) (w := w) (t := e), Sem.run_bind, Result.andThen_ok, Sem.run_pure, if_neg this]
theorem Sl.cut {A : Option Addr} {n c sz : Nat} {cs : List Value} (hs : Sl s A n c sz cs) (i j : Nat) (hij : i ≤ j) (hj : j ≤ n) : Sl s (A.map (·.add (i * sz))) (j - i) (c - i) sz ((cs.drop (i * sz)).take ((j - i) * sz)) := by
  have hlen := hs.len
  have hcap := hs.cap
  have hmax := hs.max
  refine ⟨?_, by omega, by omega, fun q u hq => ?_⟩
  · rw [List.length_take, List.length_drop, hlen, ← Nat.sub_mul]
    have : (j - i) * sz ≤ (n - i) * sz := Nat.mul_le_mul_right _ (by omega)
    omega
  · rw [List.getElem?_take] at hq
    split at hq
    · rw [List.getElem?_drop] at hq
      obtain ⟨h1, h2⟩ := hs.at_ _ u hq
      obtain ⟨ad, rfl⟩ := Option.isSome_iff_exists.1 h1
      refine ⟨rfl, ?_⟩
      simp only [Option.map_some, Option.getD_some] at h2 ⊢
      rw [add_row]
      exact h2
    · cases hq

/-! ### Arrays -/
theorem PEv.buildA {t e : TypeId} {m : Nat} {ps : List (Nat × Operand)} {vs : List (Nat × Value)} {zero cs : List Value} {sz b : Nat} {z : Value} {sz' b' : Nat} [ut : UT P t (.array m e)] [st : IT P t (.agg zero.toArray) sz b] [it : IT P e z sz' b'] (ho : o.op = .build t ps.toArray) (hp : f.parts ps = some vs)
    (hf : Instr.fill (fun i => some (i * sz', sz')) zero.toArray vs = some cs.toArray) : PEv P f s h o (.agg cs.toArray) := fun a w h1 _ => by
  have e := h1.eparts hp
  have e2 : (Array.map (fun x : Nat × Operand => (x.1, a.eval x.2)) ps.toArray).toList = vs := by simpa using e
  simp only [execOp, ho, Instr.build, Sem.run_bind, run_zero (P := P) (t := t), run_underlying ut.out, run_size (P := P), Result.andThen_ok, Value.cells, e2, hf, Sem.run_pure]
theorem PEv.indexArr {t e : TypeId} {m : Nat} {x y : Operand} {cs : List Value} {k : IntKind} {i : Int} {d : TypeDesc} {z : Value} {sz b : Nat} [ut : UT P t (.array m e)] [ue : UT P e d] [it : IT P e z sz b] (ho : o.op = .index t x y) (hx : f.val x = some (.agg cs.toArray)) (hy : f.val y = some (.int k i)) (h0 : 0 ≤ i) (h1 : i < m) (hd : isAggD d = false)
    (hv : cs[i.toNat * sz]? = some v) : PEv P f s h o v := fun a w h2 _ => by
  have h3 : (0 ≤ i ∧ i < m) := ⟨h0, h1⟩
  simp [execOp, ho, h2.eval hx, h2.eval hy, Instr.index, asIntOf, run_underlying ut.out, run_size (P := P) (w := w) (t := e), h3, part, run_isAgg (P := P) (w := w) (t := e), hd, hv]

/-! ### '==' of structs whose fields have one cell -/
def sameC : Value → Value → Bool
  | .int _ a, .int _ b => decide (a = b)
  | .bool a, .bool b => a == b
  | .string a, .string b => decide (a = b)
  | _, _ => false
def kindC : TypeDesc → Value → Value → Bool
  | .int _, .int k _, .int k' _ => decide (k = k')
  | .bool, .bool _, .bool _ => true
  | .string, .string _, .string _ => true
  | _, _, _ => false
def sameL : List Value → List Value → Bool
  | a :: us, b :: bs => sameC a b && sameL us bs
  | _, _ => true
def kindL : List TypeDesc → List Value → List Value → Bool
  | d :: ds, a :: us, b :: bs => kindC d a b && kindL ds us bs
  | [], [], [] => true
  | _, _, _ => false
def chkF (P : Program) : List Field → Nat → Option (List TypeDesc)
  | [], _ => some []
  | f :: fs, i => if f.name == "_" || Nat.blt f.offset i || Nat.blt i f.offset then none else
    match P.underlying f.type with
    | some d => if isAggD d then none else (chkF P fs (i + 1)).map (d :: ·)
    | none => none
class EQs (P : Program) (t : TypeId) (ds : outParam (List TypeDesc)) : Prop where
  eq : (match P.underlying t with | some (.struct fs) => chkF P fs.toList 0 | _ => none) = some ds
  st : P.stoodInHeld t = false
  gu : P.eqGuardType P.depth t = false
theorem run_equalIn_c {d : Nat} {t : TypeId} {td : TypeDesc} {a b : Value} {w : World} (hu : P.underlying t = some td) (hk : kindC td a b = true) : (Op.equalIn (d + 1) t a b).run P w = .ok (sameC a b) w := by
  unfold kindC at hk
  split at hk
  · simp at hk
    subst hk
    simp [Op.equalIn, run_underlying hu, sameC]
    rename_i a b
    by_cases e : a = b <;> simp [e]
  · simp only [Op.equalIn, Sem.run_bind, run_underlying hu, Result.andThen_ok, Sem.run_pure, sameC]
  · rename_i a b
    have : (a == b) = decide (a = b) := by rw [beq_toListBytes, str_eq]
    simp only [Op.equalIn, Sem.run_bind, run_underlying hu, Result.andThen_ok, Sem.run_pure, sameC, this]
  · cases hk
theorem run_eqFields_c {d : Nat} {xs ys : List Value} {w : World} : ∀ (fs : List Field) (i : Nat) (ds : List TypeDesc) (us bs : List Value), chkF P fs i = some ds → kindL ds us bs = true → (∀ j, us[j]? = xs[i + j]?) → (∀ j, bs[j]? = ys[i + j]?) → (Op.eqFields (d + 1) xs.toArray ys.toArray fs).run P w = .ok (sameL us bs) w
  | [], i, ds, us, bs, h1, h2, h3, h4 => by
    simp [chkF] at h1
    subst h1
    cases us <;> cases bs <;> simp [kindL] at h2
    simp [Op.eqFields, sameL]
  | fd :: fs, i, ds, us, bs, h1, h2, h3, h4 => by
    simp only [chkF] at h1
    split at h1
    · cases h1
    rename_i hne
    simp only [Bool.or_eq_true, not_or, Nat.blt_eq, Nat.not_lt, beq_iff_eq] at hne
    obtain ⟨⟨hn, ho1⟩, ho2⟩ := hne
    have ho : fd.offset = i := by omega
    split at h1
    · rename_i td htd
      split at h1
      · cases h1
      rename_i hagg
      obtain ⟨ds', h5, rfl⟩ := Option.map_eq_some_iff.1 h1
      cases us with
      | nil => simp [kindL] at h2
      | cons a us =>
        cases bs with
        | nil => simp [kindL] at h2
        | cons b bs =>
          simp only [kindL, Bool.and_eq_true] at h2
          have ha : xs[i]? = some a := (by simpa using (h3 0).symm)
          have hb : ys[i]? = some b := (by simpa using (h4 0).symm)
          have ih := run_eqFields_c (d := d) (xs := xs) (ys := ys) (w := w) fs (i + 1) ds' us bs h5 h2.2 (fun j => by have := h3 (j + 1); rw [List.getElem?_cons_succ] at this; rw [this]; congr 1; omega) (fun j => by have := h4 (j + 1); rw [List.getElem?_cons_succ] at this; rw [this]; congr 1; omega)
          letI : UT P fd.type td := ⟨htd⟩
          have hp1 : (part fd.type xs.toArray fd.offset).run P w = .ok a w := by simp [part, run_isAgg (P := P) (w := w) (t := fd.type), hagg, ho, ha]
          have hp2 : (part fd.type ys.toArray fd.offset).run P w = .ok b w := by simp [part, run_isAgg (P := P) (w := w) (t := fd.type), hagg, ho, hb]
          rw [Op.eqFields, if_pos hn]
          simp only [Sem.run_bind, hp1, hp2, run_equalIn_c htd h2.1, Result.andThen_ok, sameL]
          cases sameC a b
          · simp
          · simpa using ih
    · cases h1
theorem run_equal_c {t : TypeId} {ds : List TypeDesc} {xs ys : List Value} {w : World} [q : EQs P t ds] (hk : kindL ds xs ys = true) : (Op.equal t (.agg xs.toArray) (.agg ys.toArray)).run P w = .ok (sameL xs ys) w := by
  have heq := q.eq
  split at heq
  · rename_i fs hfs
    have hf : P.fieldsOf t = fs := by simp [Program.fieldsOf, hfs]
    unfold Op.equal
    rw [show Op.maxDepth = 9998 + 1 + 1 from rfl, run_equalIn_struct (P := P) w (9998 + 1) t _ _ (by rw [hf]; exact hfs) q.st, hf]
    exact run_eqFields_c fs.toList 0 ds xs ys heq hk (fun j => by simp) (fun j => by simp)
  · cases heq
theorem run_eqGuard_c {op : BinOp} {t : TypeId} {ds : List TypeDesc} {x y : Operand} {xs ys : Array Value} {w : World} [q : EQs P t ds] : (eqGuard op t x y (.agg xs) (.agg ys)).run P w = .ok () w := by
  have gu := q.gu
  unfold eqGuard
  cases op <;> simp [gu]
theorem PEv.eqC {t t' : TypeId} {x y : Operand} {xs ys : List Value} {ds : List TypeDesc} [q : EQs P t ds] (ho : o.op = .binOp .eql t x y t') (hx : f.val x = some (.agg xs.toArray)) (hy : f.val y = some (.agg ys.toArray)) (hk : kindL ds xs ys = true) : PEv P f s h o (.bool (sameL xs ys)) := fun a w h1 _ => by
  simp only [execOp, ho, h1.eval hx, h1.eval hy, Sem.run_bind, run_eqGuard_c (P := P) (t := t), Result.andThen_ok, binOp, run_equal_c (P := P) (t := t) hk, Sem.run_pure]
theorem PEv.neC {t t' : TypeId} {x y : Operand} {xs ys : List Value} {ds : List TypeDesc} [q : EQs P t ds] (ho : o.op = .binOp .neq t x y t') (hx : f.val x = some (.agg xs.toArray)) (hy : f.val y = some (.agg ys.toArray)) (hk : kindL ds xs ys = true) : PEv P f s h o (.bool (!(sameL xs ys))) := fun a w h1 _ => by
  simp only [execOp, ho, h1.eval hx, h1.eval hy, Sem.run_bind, run_eqGuard_c (P := P) (t := t), Result.andThen_ok, binOp, run_equal_c (P := P) (t := t) hk, Sem.run_pure]
end
instance : EQs Try.prog 89 [.string, .string] := ⟨by kernel_rfl, by kernel_rfl, by kernel_rfl⟩
instance : EQs Try.prog 42 [.int .i64, .int .i64, .int .i64, .string, .string] := ⟨by kernel_rfl, by kernel_rfl, by kernel_rfl⟩
end Go.Proofs.Ytnndjobhcncanaa
