/- The calculus, fourth part: operations that make memory, write or call. No statement of the seat is proved here. -/
import Derived.Test.YtnndjobhcncanaaC
import Derived.ArgAppend
import Derived.Lib.AppendStr
import Derived.Laws.IdiomStrings
namespace Go.Proofs.Ytnndjobhcncanaa
open Go.RowKit
section
variable {P : Program} {f : Fr} {s : Store} {h : List Ent} {o : Oper} {v : Value}
theorem Eff.of_run {next : Ending → Store → List Ent → Prop} (H : ∀ a w, f.ok a → Mem s h w → ∃ v s' h' w', (execOp a.eval o).run P w = .ok (.value v) w' ∧ next (.returned v) s' h' ∧ Cur w s h s' h' w') : Eff P f s h o next := by
  intro a w K Q h1 h2 h3 _
  obtain ⟨v, s', h', w', hr, hn, hc⟩ := H a w h1 h2
  unfold Oper.wp
  rw [hr]
  exact h3 v s' h' w' hn hc
theorem Eff.of_skip {next : Ending → Store → List Ent → Prop} (H : ∀ a w, f.ok a → Mem s h w → ∃ s' h' w', (execOp a.eval o).run P w = .ok .skip w' ∧ next (.returned undef) s' h' ∧ Cur w s h s' h' w') : Eff P f s h o next := by
  intro a w K Q h1 h2 h3 _
  obtain ⟨s', h', w', hr, hn, hc⟩ := H a w h1 h2
  unfold Oper.wp
  rw [hr]
  exact h3 undef s' h' w' hn hc
theorem Cur.new {w : World} (m : Mem s h w) (ob : Obj) : Cur w s h s (.blk w.heap.size ob :: h) (w.alloc ob) := Cur.step0 (Cur.start m) (Cur.alloc m ob)
theorem Cur.newS {w : World} (m : Mem s h w) (ob : Obj) : ∃ s', Cur w s h s' h (w.alloc ob) ∧ s' w.heap.size = some ob ∧ s.le s' := by
  have := (Cur.new m ob).freeze
  exact ⟨_, this.1, by simp, this.2⟩
theorem run_newRow {e : TypeId} {cs : Array Value} {w : World} : (newRow e cs).run P w = .ok ⟨w.heap.size, 0, none⟩ (w.alloc (.cells cs e)) := rfl
/-- A new variable with a value in it. -/
theorem Eff.box {t : TypeId} {x : Operand} {cs : Array Value} (ho : o.op = .box t x) (hx : f.val x = some v) (hcs : v.cells = cs) :
    Eff P f s h o (fun e s' h' => ∃ g, e = .returned (.pointer (some ⟨g, 0, none⟩)) ∧ s' = s ∧ h' = .blk g (.cells cs t (0, 0)) :: h) :=
  Eff.of_run fun a w h1 h2 => by
    subst hcs
    refine ⟨_, s, _, _, ?_, ⟨w.heap.size, rfl, rfl, rfl⟩, Cur.new h2 _⟩
    simp [execOp, ho, h1.eval hx, Instr.box, newVar, run_newRow]
theorem Eff.boxA {t : TypeId} {x : Operand} {l : List Value} (ho : o.op = .box t x) (hx : f.val x = some (.agg l.toArray)) :
    Eff P f s h o (fun e s' h' => ∃ g, e = .returned (.pointer (some ⟨g, 0, none⟩)) ∧ s' = s ∧ h' = .blk g (.cells l.toArray t (0, 0)) :: h) := Eff.box ho hx rfl
theorem Eff.box1 {t : TypeId} {x : Operand} (ho : o.op = .box t x) (hx : f.val x = some v) (hv : v.oneCell' = true) :
    Eff P f s h o (fun e s' h' => ∃ g, e = .returned (.pointer (some ⟨g, 0, none⟩)) ∧ s' = s ∧ h' = .blk g (.cells [v].toArray t (0, 0)) :: h) := Eff.box ho hx (by cases v <;> simp_all [Value.cells, Value.oneCell'])
theorem Eff.alloc {t : TypeId} {z : Value} {sz b : Nat} {cs : Array Value} (it : IT P t z sz b) (ho : o.op = .alloc t) (hcs : z.cells = cs) :
    Eff P f s h o (fun e s' h' => ∃ g, e = .returned (.pointer (some ⟨g, 0, none⟩)) ∧ s' = s ∧ h' = .blk g (.cells cs t (0, 0)) :: h) :=
  Eff.of_run fun a w h1 h2 => by
    subst hcs
    refine ⟨_, s, _, _, ?_, ⟨w.heap.size, rfl, rfl, rfl⟩, Cur.new h2 _⟩
    simp [execOp, ho, Instr.alloc, newVar, run_newRow, run_zero (P := P) (t := t)]
theorem Eff.allocA {t : TypeId} {l : List Value} {sz b : Nat} [it : IT P t (.agg l.toArray) sz b] (ho : o.op = .alloc t) :
    Eff P f s h o (fun e s' h' => ∃ g, e = .returned (.pointer (some ⟨g, 0, none⟩)) ∧ s' = s ∧ h' = .blk g (.cells l.toArray t (0, 0)) :: h) := Eff.alloc it ho rfl
theorem Eff.alloc1 {t : TypeId} {z : Value} {sz b : Nat} [it : IT P t z sz b] (ho : o.op = .alloc t) (hv : z.oneCell' = true) :
    Eff P f s h o (fun e s' h' => ∃ g, e = .returned (.pointer (some ⟨g, 0, none⟩)) ∧ s' = s ∧ h' = .blk g (.cells [z].toArray t (0, 0)) :: h) := Eff.alloc it ho (by cases z <;> simp_all [Value.cells, Value.oneCell'])
/-- What a block that never changes holds, as a slice's cells. -/
theorem Sl.of_blk {g n c sz : Nat} {cs : List Value} {arr : Array Value} {e : TypeId} {fr : Nat × Nat} (hs : s g = some (.cells arr e fr)) (hl : cs.length = n * sz) (hn : n ≤ c) (hc : c ≤ 9223372036854775807) (ht : arr.toList.take cs.length = cs) : Sl s (some ⟨g, 0, none⟩) n c sz cs := by
  refine ⟨hl, hn, hc, fun j u hj => ⟨rfl, ?_⟩⟩
  show cellS s ((⟨g, 0, none⟩ : Addr).add j) = _
  rw [add_blk, Nat.zero_add]
  simp only [cellS, hs]
  rw [← ht, List.getElem?_take] at hj
  split at hj
  · simpa using hj
  · cases hj
/-- A slice of just these values. -/
theorem Eff.buildSlice {t e : TypeId} {m : Nat} {ps : List (Nat × Operand)} {vs : List (Nat × Value)} {z : Value} {sz b : Nat} {cs : List Value} [ut : UT P t (.slice e)] [it : IT P e z sz b] (ho : o.op = .buildSlice t m ps.toArray) (hp : f.parts ps = some vs)
    (hm : m * sz ≤ 2 ^ 24) (hm0 : m * sz ≠ 0) (hf : Instr.fill (fun i => some (i * sz, sz)) ((Array.range (m * sz)).map (z.cells[· % z.cells.size]!)) vs = some cs.toArray) (hl : cs.length = m * sz) :
    Eff P f s h o (fun e' s' h' => ∃ A, e' = .returned (.slice A m m) ∧ h' = h ∧ Sl s' A m m sz cs) :=
  Eff.of_run fun a w h1 h2 => by
    obtain ⟨s', hc, hs', hle⟩ := Cur.newS h2 (.cells cs.toArray e)
    have e1 := h1.eparts hp
    have hmm : m ≤ m * sz := by
      rcases Nat.eq_zero_or_pos sz with h | h
      · simp [h] at hm0
      · exact Nat.le_mul_of_pos_right m h
    refine ⟨_, s', h, _, ?_, ⟨some ⟨w.heap.size, 0, none⟩, rfl, rfl, Sl.of_blk hs' hl (Nat.le_refl _) (by omega) (by simp)⟩, hc⟩
    have h3 : ¬ (m * sz > 2 ^ 24) := by omega
    simp only [execOp, ho, Instr.buildSlice, Sem.run_bind, run_underlying ut.out, run_size (P := P) (t := e), Result.andThen_ok, if_neg h3, if_neg hm0, Sem.run_pure, run_zero (P := P) (t := e)]
    have e2 : (Array.map (fun x : Nat × Operand => (x.1, a.eval x.2)) ps.toArray).toList = vs := by simpa using e1
    simp only [e2, hf, Sem.run_bind, run_newRow, Result.andThen_ok, Sem.run_pure]
/-- '[]byte(z)'. -/
theorem Eff.bytesOf {t t' e : TypeId} {x : Operand} {z : ByteArray} [ut : UT P t .string] [ut' : UT P t' (.slice e)] [ue : UT P e (.int .u8)] (ho : o.op = .convert t t' x) (hx : f.val x = some (.string z)) (hz : z.size ≤ 140737488355328) :
    Eff P f s h o (fun e' s' h' => ∃ A c, e' = .returned (.slice A z.size c) ∧ h' = h ∧ Sl s' A z.size c 1 (z.data.toList.map fun b => .int .u8 b.toNat)) :=
  Eff.of_run fun a w h1 h2 => by
    have h2' := h2.drew
    obtain ⟨s', hc, hs', hle⟩ := Cur.newS h2' (.cells (bytesRow z (grownCap w z.size 0 e)) e ((bytesRow z (grownCap w z.size 0 e)).size, (bytesRow z (grownCap w z.size 0 e)).size + 1))
    have hlen : z.data.toList.length = z.size := by rw [Array.length_toList]; rfl
    refine ⟨_, s', h, w.drew.alloc (.cells (bytesRow z (grownCap w z.size 0 e)) e ((bytesRow z (grownCap w z.size 0 e)).size, (bytesRow z (grownCap w z.size 0 e)).size + 1)), ?_, ⟨some ⟨w.heap.size, 0, none⟩, grownCap w z.size 0 e, rfl, rfl, Sl.of_blk hs' (by simp [hlen]) (grownCap_ge _ _ _ _) (grownCap_le_maxLen _ _ _ _ (by simp only [maxLen]; omega)) ?_⟩, ?_⟩
    · simp only [execOp, ho, h1.eval hx, Sem.run_bind, run_bytes_of_string w t t' e z ut.out ut'.out ue.out, Result.andThen_ok, Sem.run_pure]
    · unfold bytesRow
      rw [Array.toList_append, Array.toList_map, List.take_append_of_le_length (Nat.le_refl _), List.take_length]
    · exact ⟨hc.mem, ⟨hc.ext.os, hc.ext.tape, hc.ext.output, hc.ext.size, hc.ext.block⟩, hc.le, hc.fs, hc.fh⟩
/-- 'string(b)'. -/
theorem PEv.string {t t' e : TypeId} {x : Operand} {A : Option Addr} {n c : Nat} {l : List UInt8} [ut : UT P t (.slice e)] [ue : UT P e (.int .u8)] [ut' : UT P t' .string] (ho : o.op = .convert t t' x) (hx : f.val x = some (.slice A n c))
    (hs : Sl s A n c 1 (l.map fun b => .int .u8 b.toNat)) : PEv P f s h o (.string ⟨l.toArray⟩) := fun a w h1 h2 => by
  have hl : l.length = n := by have := hs.len; simpa using this
  cases A with
  | none =>
    have : l = [] := by
      cases l with
      | nil => rfl
      | cons b l => have := (hs.at_ 0 _ rfl).1; simp at this
    subst this
    simp only [execOp, ho, h1.eval hx, convert, Sem.run_bind, run_underlying ut.out, run_underlying ut'.out, run_underlying ue.out, Result.andThen_ok, Conv.bytesToString, Sem.run_pure]
    rfl
  | some ad =>
    have hc : ∀ j (hj : j < l.length), w.cell? (ad.add j) = some (.int .u8 (l[j].toNat : Int)) := fun j hj => h2.cell (hs.at_ j _ (by simp [List.getElem?_eq_getElem hj])).2
    have := run_convert_bytes_back (P := P) w t t' e ad c l ut.out ue.out ut'.out hc
    rw [hl] at this
    simp only [execOp, ho, h1.eval hx, Sem.run_bind, this, Result.andThen_ok, Sem.run_pure]
/-- A store of one cell into a variable that is owned. -/
theorem Eff.store1 {t : TypeId} {x y : Operand} {g i : Nat} {c : List Value} {e : TypeId} {z : Value} {b : Nat} {h2 : List Ent} {c' : List Value} [it : IT P t z 1 b] (ho : o.op = .store t x y) (hx : f.val x = some (.pointer (some ⟨g, i, none⟩))) (hy : f.val y = some v) (hv : v.oneCell' = true)
    (hm : Pick (.blk g (.cells c.toArray e (0, 0))) h h2) (hi : i < c.length) (hc : c.set i v = c') :
    Eff P f s h o (fun e' s' h' => e' = .returned undef ∧ s' = s ∧ h' = .blk g (.cells c'.toArray e (0, 0)) :: h2) :=
  Eff.of_skip fun a w h1 m => by
    have hp := hm.perm
    have hb : w.heap[g]? = some (.cells c.toArray e (0, 0)) := m.own (.blk g _) (hp.mem_iff.2 (List.mem_cons_self ..))
    have hcell : w.cell? ⟨g, i, none⟩ = some c[i] := by rw [cell_blk hb]; simp [hi]
    have hfr : w.frozen? ⟨g, i, none⟩ = false := by simp [World.frozen?, hb]
    refine ⟨s, _, w.setCell ⟨g, i, none⟩ v, ?_, ⟨rfl, rfl, rfl⟩, ?_⟩
    · have hsz : v.cells = #[v] := by cases v <;> simp_all [Value.cells, Value.oneCell']
      have hst : (store ⟨g, i, none⟩ v).run P w = .ok () (w.setCell ⟨g, i, none⟩ v) := by rw [run_store P w ⟨g, i, none⟩ v .plain hv, hcell]; simp [hfr]
      simp only [execOp, ho, h1.eval hx, h1.eval hy, Instr.storeAt, Instr.sureAddr, storeVar, Sem.run_bind, Sem.run_pure, Result.andThen_ok, run_size (P := P) (t := t), hsz]
      simp [storeCells, Addr.add, hst]
    · subst hc
      have c0 := (Cur.start m).perm hp
      have hblk : (w.setCell ⟨g, i, none⟩ v).heap[g]? = some (.cells (c.set i v).toArray e (0, 0)) := by
        simp only [World.setCell, Array.getElem?_modify, if_true, hb, Option.map_some]
        simp
      have d : Cur w s [.blk g (.cells c.toArray e (0, 0))] s [.blk g (.cells (c.set i v).toArray e (0, 0))] (w.setCell ⟨g, i, none⟩ v) := by
        have m1 := c0.mem.sub (h' := [.blk g (.cells c.toArray e (0, 0))]) (by simp) (Store.le.refl _)
        refine ⟨⟨fun k ob hk => ?_, fun x hx => ?_, by simp [keys, Ent.keys], m1.dj⟩, ⟨rfl, rfl, rfl, by simp [World.setCell], fun k hk hkg => ?_⟩, Store.le.refl _, fun _ h => .inl h, fun _ h => .inl h⟩
        · have hne : k ≠ g := fun e => by
            have := m1.dj g (by simp [keys, Ent.keys])
            rw [← e, hk] at this
            cases this
          exact (Below.heap_setCell w ⟨g, i, none⟩ v k hne).trans (m.im k ob hk)
        · simp at hx
          subst hx
          exact hblk
        · exact Below.heap_setCell w ⟨g, i, none⟩ v k (by simpa [keys, Ent.keys] using hkg)
      exact Cur.step (h1 := [_]) c0 d |>.perm (List.Perm.refl _) |> fun c => ⟨c.mem, by have := c.ext; exact ⟨this.os, this.tape, this.output, this.size, this.block⟩, c.le, c.fs, c.fh⟩
/-- A call of a Go function, by its contract. -/
class Enters (P : Program) (g : FuncId) : Prop where out : ∀ args w, (callFunc g args).run P w = .ok (.enter g args) w
theorem Eff.enter {g : FuncId} {args : Array Value} {h1 r : List Ent} {post : Ending → Store → List Ent → Prop} (hrun : ∀ a w, f.ok a → (execOp a.eval o).run P w = .ok (.enter g args) w) (hc : Fn P g args s h1 post) (hs : Split h1 h r) (hno : ∀ s' h', ¬ post .outgrown s' h') :
    Eff P f s h o (fun e s' h' => ∃ h1', post e s' h1' ∧ h' = h1' ++ r) := by
  intro a w K Q ha m hK hQ
  unfold Oper.wp
  rw [hrun a w ha, Oper.upon_enter]
  have hp := hs.perm
  have c0 := (Cur.start m).perm hp
  refine (hc w (m.hsub hs (Store.le.refl _))).mono fun e w' ⟨s', h1', hpost, hcur⟩ => ?_
  have c1 := Cur.step c0 hcur
  cases e with
  | returned v => exact hK v s' _ w' ⟨h1', hpost, rfl⟩ c1
  | panicked ch => exact hQ ch s' _ w' ⟨h1', hpost, rfl⟩ c1
  | outgrown => exact (hno s' h1' hpost).elim
theorem Eff.call {g : FuncId} {xs : List Operand} {ts : Array TypeId} {vs : List Value} {h1 r : List Ent} {post : Ending → Store → List Ent → Prop} [en : Enters P g] (ho : o.op = .call { callee := .value (.func g), args := xs.toArray, argTypes := ts }) (hx : f.vals xs = some vs)
    (hc : Fn P g vs.toArray s h1 post) (hs : Split h1 h r) (hno : ∀ s' h', ¬ post .outgrown s' h') : Eff P f s h o (fun e s' h' => ∃ h1', post e s' h1' ∧ h' = h1' ++ r) :=
  Eff.enter (fun a w ha => by
    have e := ha.evals hx
    have := en.out vs.toArray w
    simp [execOp, ho, resolve, Deferred.ofValue, invoke, Act.eval, e, this]) hc hs hno
/-- A call of a function value. -/
theorem Eff.callV {t : Tmp} {g : FuncId} {xs : List Operand} {ts : Array TypeId} {vs fs cs : List Value} {h1 r : List Ent} {post : Ending → Store → List Ent → Prop} [en : Enters P g] (ho : o.op = .call { callee := .value (.tmp t), args := xs.toArray, argTypes := ts }) (hf : f.get t = some (.func (.func g) fs.toArray cs.toArray)) (hx : f.vals xs = some vs)
    (hc : Fn P g (fs ++ vs ++ cs).toArray s h1 post) (hs : Split h1 h r) (hno : ∀ s' h', ¬ post .outgrown s' h') : Eff P f s h o (fun e s' h' => ∃ h1', post e s' h1' ∧ h' = h1' ++ r) :=
  Eff.enter (fun a w ha => by
    have e := ha.evals hx
    have ef : a.eval (.tmp t) = _ := ha.eval (x := .tmp t) hf
    have := en.out (fs ++ vs ++ cs).toArray w
    simp [execOp, ho, resolve, ef, Deferred.ofValue, invoke, e]
    simpa using this) hc hs hno
/-- 'panic(x)', x an interface value that holds something. -/
theorem Eff.panic {x : Operand} {t : TypeId} (ho : o.op = .panic x) (hx : f.val x = some (.iface t v)) : Eff P f s h o (fun e s' h' => e = .panicked [{ v := .iface t v, recovered := false }] ∧ s' = s ∧ h' = h) := by
  intro a w K Q ha m hK hQ
  have hr : (execOp a.eval o).run P w = .halt (.panic (.iface t v)) w := by simp [execOp, ho, ha.eval hx, Instr.panic, goPanic]
  unfold Oper.wp
  rw [hr, Oper.upon_panic]
  exact hQ _ s h w ⟨rfl, rfl, rfl⟩ (Cur.start m)
/-! ### Append -/
theorem Cur.buf {w w' : World} {A A' : Option Addr} {n n' c c' sz : Nat} {e : TypeId} {xs xs' : List Value} {h2 : List Ent} (m : Mem s h w) (hm : Pick (.buf (.slice A n c) e sz n xs) h h2) (hown : w'.ownsRow 0 e sz (.slice A' n' c') n' xs')
    (hg : w.grownBy w' (Value.slice A n c).ownBlock) (hat : (Value.slice A' n' c').ownBlock = (Value.slice A n c).ownBlock ∨ ∀ b, (Value.slice A' n' c').ownBlock = some b → w.heap.size ≤ b) :
    Cur w s h s (.buf (.slice A' n' c') e sz n' xs' :: h2) w' := by
  have hp := hm.perm
  have c0 := (Cur.start m).perm hp
  have m1 := c0.mem.sub (h' := [.buf (.slice A n c) e sz n xs]) (by simp) (Store.le.refl _)
  have hk1 : keys [.buf (.slice A n c) e sz n xs] = (Value.slice A n c).ownBlock.toList := by simp [keys, Ent.keys]
  have d : Cur w s [.buf (.slice A n c) e sz n xs] s [.buf (.slice A' n' c') e sz n' xs'] w' := by
    refine ⟨⟨fun k ob hk => ?_, fun x hx => ?_, ?_, fun g hgk => ?_⟩, ⟨hg.os, hg.tape, hg.output, hg.size, fun k hk hkn => ?_⟩, Store.le.refl _, fun _ h => .inl h, fun g hgk => ?_⟩
    · have hw := m.im k ob hk
      refine (hg.block k (heap_lt hw) fun e => ?_).trans hw
      have := m1.dj k (by rw [hk1, ← e]; simp)
      rw [hk] at this
      cases this
    · rw [List.mem_singleton] at hx
      subst hx
      exact hown
    · simp only [keys, Ent.keys, List.flatMap_cons, List.flatMap_nil, List.append_nil]
      cases (Value.slice A' n' c').ownBlock <;> simp
    · simp [keys, Ent.keys] at hgk
      rcases hat with hat | hat
      · exact m1.dj g (by rw [hk1, ← hat, hgk]; simp)
      · rcases Option.eq_none_or_eq_some (s g) with h' | ⟨ob, h'⟩
        · exact h'
        · have h1 := heap_lt (m.im g ob h'); have h2 := hat g hgk; omega
    · exact hg.block k hk (fun e => hkn (by rw [hk1, ← e]; simp))
    · simp [keys, Ent.keys] at hgk
      rcases hat with hat | hat
      · exact .inl (by rw [hk1, ← hat, hgk]; simp)
      · exact .inr (hat g hgk)
  have := Cur.step (h1 := [_]) c0 d
  exact ⟨this.mem, ⟨this.ext.os, this.ext.tape, this.ext.output, this.ext.size, fun k hk hkn => this.ext.block k hk (fun hk' => hkn hk')⟩, this.le, this.fs, fun g hg => this.fh g hg⟩
/-- What is appended: so many elements, these cells. -/
structure Src (P : Program) (s : Store) (h : List Ent) (x : Value) (sz m : Nat) (ys : List Value) : Prop where
  len : ∀ w, (Builtin.lenOf x).run P w = .ok m w
  cells : ∀ w, Mem s h w → (Builtin.firstCells sz m x).run P w = .ok ys.toArray w
  one : ∀ u ∈ ys, u.oneCell' = true
  num : ys.length = m * sz
theorem Src.of_sl {A : Option Addr} {m c sz : Nat} {ys : List Value} (hs : Sl s A m c sz ys) (h1 : ∀ u ∈ ys, u.oneCell' = true) : Src P s h (.slice A m c) sz m ys := by
  refine ⟨fun w => rfl, fun w hw => ?_, h1, hs.len⟩
  cases A with
  | none =>
    have : ys = [] := by
      cases ys with
      | nil => rfl
      | cons b l => have := (hs.at_ 0 _ rfl).1; simp at this
    subst this
    rfl
  | some ad => exact run_loadCells hs.len (fun j u hj => hw.cell (hs.at_ j u hj).2)
theorem Src.of_str {z : ByteArray} : Src P s h (.string z) 1 z.size (Lib.strCells z) :=
  ⟨fun w => rfl, fun w _ => Lib.run_firstCells_string w 1 z, Lib.strCells_oneCell z, by rw [Lib.strCells_length, Nat.mul_one]⟩
theorem run_growS {t tx ty e : TypeId} {e' : TypeId} {z : Value} {sz bytes m n c : Nat} {x : Value} {A : Option Addr} {olds ys : List Value} {w : World} [ut : UT P t (.slice e)] [ux : UT P tx (.slice e')] [it : IT P e z sz bytes] (src : Src P s h x sz m ys) (hw : Mem s h w)
    (hA : A = none → n = 0) (hlo : olds.length = n * sz) (holds : ∀ b, A = some b → ∀ j u, olds[j]? = some u → w.cell? (b.add j) = some u) (hg : c < n + m) (hb : (n + m) * bytes ≤ 140737488355328) (h63 : n + m ≤ 9223372036854775807) :
    (Builtin.append_ #[t, tx] ty #[.slice A n c, x]).run P w = .ok (.slice (some ⟨w.heap.size, 0, none⟩) (n + m) (grownCap w (n + m) c e)) (w.drew.alloc (.cells (olds.toArray ++ ys.toArray ++ Builtin.zeroCells z.cells (grownCap w (n + m) c e - (n + m))) e)) := by
  obtain ⟨i, h1, h2, h3, h4⟩ := it.out
  subst h3
  subst h4
  have hn : ¬ (n + m ≤ c) := by omega
  have h63' : ¬ (9223372036854775807 < ((n : Int) + (m : Int))) := by omega
  have h48' : ¬ (281474976710656 < Builtin.nextslicecap (n + m) c * i.bytes) := by have := growslice_fits hg hb; omega
  have hf := src.cells w.drew hw.drew
  have hfo : (Builtin.firstCells i.size n (.slice A n c)).run P w.drew = .ok olds.toArray w.drew := by
    cases A with
    | none =>
      have := hA rfl
      subst this
      have : olds = [] := List.eq_nil_of_length_eq_zero (by simpa using hlo)
      subst this
      rfl
    | some b => exact run_firstCells_some (P := P) w.drew i.size n b n c olds hlo (by simpa using holds b rfl)
  simp [Builtin.append_, run_underlying ut.out, run_underlying ux.out, sizeOf, typeInfo, zeroValue, h1, h2, src.len, hn, h63', h48', Question.forced, hf, hfo, newRow, grownCap]
  congr 2
  apply Array.ext'
  simp [List.append_assoc]
theorem run_roomS {t tx ty e : TypeId} {e' : TypeId} {z : Value} {sz bytes m n c g : Nat} {x : Value} {ys : List Value} {cur : Array Value} {w : World} [ut : UT P t (.slice e)] [ux : UT P tx (.slice e')] [it : IT P e z sz bytes] (src : Src P s h x sz m ys) (hw : Mem s h w)
    (hg : w.heap[g]? = some (.cells cur e (0, 0))) (hr : n + m ≤ c) (hfit : n * sz + ys.length ≤ cur.size) :
    (Builtin.append_ #[t, tx] ty #[.slice (some ⟨g, 0, none⟩) n c, x]).run P w = .ok (.slice (some ⟨g, 0, none⟩) (n + m) c) (w.setRow g (cur.toList.take (n * sz) ++ ys ++ cur.toList.drop (n * sz + ys.length)).toArray) := by
  obtain ⟨i, h1, h2, h3, h4⟩ := it.out
  subst h3
  subst h4
  have hf := src.cells w hw
  have hst := run_storeCells_at P g (n * i.size) e ys 0 cur w hg (by simpa using hfit) src.one
  simp only [Nat.add_zero] at hst
  simp [Builtin.append_, run_underlying ut.out, run_underlying ux.out, sizeOf, typeInfo, h1, src.len, hr, hf, Addr.add_lit, hst]
theorem run_noneS {t tx ty e : TypeId} {e' : TypeId} {z : Value} {sz bytes : Nat} {x : Value} {A : Option Addr} {n c : Nat} {w : World} [ut : UT P t (.slice e)] [ux : UT P tx (.slice e')] [it : IT P e z sz bytes] (src : Src P s h x sz 0 []) (hw : Mem s h w) (hr : n ≤ c) :
    (Builtin.append_ #[t, tx] ty #[.slice A n c, x]).run P w = .ok (.slice A n c) w := by
  obtain ⟨i, h1, h2, h3, h4⟩ := it.out
  subst h3
  subst h4
  have hf := src.cells w hw
  cases A <;> simp [Builtin.append_, run_underlying ut.out, run_underlying ux.out, sizeOf, typeInfo, h1, src.len, hr, hf, storeCells]
/-- Onto a slice without room (all of it may be read; nil, too): a new row, owned. -/
theorem Eff.growS {t tx e : TypeId} {e' : TypeId} {z : Value} {sz bytes m n c : Nat} {x y : Operand} {A : Option Addr} {u : Value} {olds ys : List Value} [ut : UT P t (.slice e)] [ux : UT P tx (.slice e')] [it : IT P e z sz bytes] (ho : o.op = .call { callee := .builtin .append, args := #[x, y], argTypes := #[t, tx] })
    (hx : f.val x = some (.slice A n c)) (hy : f.val y = some u) (src : Src P s h u sz m ys) (hs : Sl s A n c sz olds) (hA : A = none → n = 0) (hg : c < n + m) (hb : (n + m) * bytes ≤ 140737488355328) (h63 : n + m ≤ 9223372036854775807) :
    Eff P f s h o (fun e' s' h' => ∃ A' c', e' = .returned (.slice A' (n + m) c') ∧ s' = s ∧ h' = .buf (.slice A' (n + m) c') e sz (n + m) (olds ++ ys) :: h) :=
  Eff.of_run fun a w h1 hw => by
    have hr := run_growS (P := P) (ty := o.type) (t := t) (tx := tx) src hw hA hs.len (fun b hb j u hj => by subst hb; exact hw.cell (hs.at_ j u hj).2) hg hb h63
    have hge := grownCap_ge w (n + m) c e
    have hcm : grownCap w (n + m) c e ≤ maxLen := grownCap_le_maxLen w (n + m) c e (by simp only [maxLen]; omega)
    have hlen : (olds ++ ys).length = (n + m) * sz := by rw [List.length_append, hs.len, src.num, Nat.add_mul]
    have hown : (w.drew.alloc (.cells (olds.toArray ++ ys.toArray ++ Builtin.zeroCells z.cells (grownCap w (n + m) c e - (n + m))) e)).ownsRow 0 e sz (.slice (some ⟨w.heap.size, 0, none⟩) (n + m) (grownCap w (n + m) c e)) (n + m) (olds ++ ys) := by
      refine ⟨hlen, .inr ⟨w.heap.size, _, _, rfl, Nat.zero_le _, heap_alloc_new w.drew _, hge, hcm, ?_, ?_⟩⟩
      · simp only [Array.size_append, List.size_toArray, size_zeroCells, it.cs, hs.len, src.num, ← Nat.add_mul]
        congr 1
        omega
      · simp only [Array.toList_append, List.append_assoc]
        rw [← List.append_assoc, ← hlen]
        exact List.take_left
    have hnew : Cur w s [] s [.buf (.slice (some ⟨w.heap.size, 0, none⟩) (n + m) (grownCap w (n + m) c e)) e sz (n + m) (olds ++ ys)] (w.drew.alloc (.cells (olds.toArray ++ ys.toArray ++ Builtin.zeroCells z.cells (grownCap w (n + m) c e - (n + m))) e)) := by
      have c0 := Cur.alloc (w := w.drew) hw.drew (.cells (olds.toArray ++ ys.toArray ++ Builtin.zeroCells z.cells (grownCap w (n + m) c e - (n + m))) e)
      refine ⟨⟨c0.mem.im, fun x hx => ?_, by simp [keys, Ent.keys, Value.ownBlock], fun g hgk => c0.mem.dj g (by simpa [keys, Ent.keys, Value.ownBlock] using hgk)⟩, ⟨c0.ext.os, c0.ext.tape, c0.ext.output, c0.ext.size, c0.ext.block⟩, c0.le, c0.fs, fun g hgk => c0.fh g (by simpa [keys, Ent.keys, Value.ownBlock] using hgk)⟩
      rw [List.mem_singleton] at hx
      subst hx
      exact hown
    refine ⟨_, s, _, _, ?_, ⟨_, _, rfl, rfl, rfl⟩, Cur.step0 (Cur.start hw) hnew⟩
    simp [execOp, ho, resolve, invoke, builtin, h1.eval hx, h1.eval hy, hr]
/-- Onto a slice that is owned. -/
theorem Eff.appS {t tx e : TypeId} {e' : TypeId} {z : Value} {sz bytes m n c : Nat} {x y : Operand} {A : Option Addr} {u : Value} {xs ys : List Value} {h2 : List Ent} [ut : UT P t (.slice e)] [ux : UT P tx (.slice e')] [it : IT P e z sz bytes] (ho : o.op = .call { callee := .builtin .append, args := #[x, y], argTypes := #[t, tx] })
    (hx : f.val x = some (.slice A n c)) (hy : f.val y = some u) (src : Src P s h u sz m ys) (hm : Pick (.buf (.slice A n c) e sz n xs) h h2) (hb : (n + m) * bytes ≤ 140737488355328) (h63 : n + m ≤ 9223372036854775807) :
    Eff P f s h o (fun e' s' h' => ∃ A' c', e' = .returned (.slice A' (n + m) c') ∧ s' = s ∧ h' = .buf (.slice A' (n + m) c') e sz (n + m) (xs ++ ys) :: h2) :=
  Eff.of_run fun a w h1 hw => by
    have hown : w.ownsRow 0 e sz (.slice A n c) n xs := hw.own (.buf (.slice A n c) e sz n xs) (hm.perm.mem_iff.2 (List.mem_cons_self ..))
    have hlen : (xs ++ ys).length = (n + m) * sz := by rw [List.length_append, hown.1, src.num, Nat.add_mul]
    have hex : ∀ v w', (Builtin.append_ #[t, tx] o.type #[.slice A n c, u]).run P w = .ok v w' → (execOp a.eval o).run P w = .ok (.value v) w' := fun v w' hr => by simp [execOp, ho, resolve, invoke, builtin, h1.eval hx, h1.eval hy, hr]
    by_cases hroom : n + m ≤ c
    · rcases hown.2 with ⟨e1, hn0⟩ | ⟨g, cap, cur, e1, hbg, hg, hnc, hcm, hcs, htake⟩
      · simp only [Value.slice.injEq] at e1
        obtain ⟨rfl, rfl, rfl⟩ := e1
        have hm0 : m = 0 := by omega
        subst hm0
        have hys : ys = [] := List.eq_nil_of_length_eq_zero (by simpa using src.num)
        subst hys
        refine ⟨_, s, _, w, hex _ _ (run_noneS (P := P) (t := t) (tx := tx) src hw (Nat.le_refl _)), ⟨none, 0, rfl, rfl, rfl⟩, ?_⟩
        simp only [List.append_nil]
        exact (Cur.start hw).perm hm.perm |> fun c => ⟨c.mem, c.ext, c.le, c.fs, c.fh⟩
      · simp only [Value.slice.injEq] at e1
        obtain ⟨rfl, -, rfl⟩ := e1
        have hfit : n * sz + ys.length ≤ cur.size := by rw [src.num, hcs, ← Nat.add_mul]; exact Nat.mul_le_mul_right _ hroom
        have hr := run_roomS (P := P) (ty := o.type) (t := t) (tx := tx) src hw hg hroom hfit
        refine ⟨_, s, _, _, hex _ _ hr, ⟨_, _, rfl, rfl, rfl⟩, Cur.buf hw hm ⟨hlen, .inr ⟨g, c, _, rfl, Nat.zero_le _, setRow_heap w g cur _ e _ hg, hroom, hcm, ?_, ?_⟩⟩ ⟨rfl, rfl, rfl, by simp, fun k _ hk => setRow_other w g k _ (fun e => hk (by simp [Value.ownBlock, e]))⟩ (.inl rfl)⟩
        · simp only [List.size_toArray, List.length_append, List.length_take, List.length_drop, Array.length_toList]
          omega
        · rw [htake, ← hlen]
          exact List.take_left
    · have hA : A = none → n = 0 := by
        rintro rfl
        rcases hown.2 with ⟨e1, hn0⟩ | ⟨g, cap, cur, e1, _⟩
        · exact hn0
        · cases e1
      have hr := run_growS (P := P) (ty := o.type) (t := t) (tx := tx) (n := n) (c := c) (A := A) (olds := xs) src hw hA hown.1 (fun b hb j u hj => by
        subst hb
        rcases hown.2 with ⟨e1, hn0⟩ | ⟨g, cap, cur, e1, _⟩
        · cases e1
        · simp only [Value.slice.injEq, Option.some.injEq] at e1
          obtain ⟨rfl, -, -⟩ := e1
          exact hown.cells (g := g) rfl j u hj) (by omega) hb h63
      have hge := grownCap_ge w (n + m) c e
      have hcm : grownCap w (n + m) c e ≤ maxLen := grownCap_le_maxLen w (n + m) c e (by simp only [maxLen]; omega)
      refine ⟨_, s, _, _, hex _ _ hr, ⟨_, _, rfl, rfl, rfl⟩, Cur.buf hw hm ⟨hlen, .inr ⟨w.heap.size, _, _, rfl, Nat.zero_le _, heap_alloc_new w.drew _, hge, hcm, ?_, ?_⟩⟩ ⟨rfl, rfl, rfl, by simp, fun k hk _ => heap_alloc_old w.drew _ hk⟩ (.inr fun b hb => by simp [Value.ownBlock] at hb; omega)⟩
      · simp only [Array.size_append, List.size_toArray, size_zeroCells, it.cs, hown.1, src.num, ← Nat.add_mul]
        congr 1
        omega
      · simp only [Array.toList_append, List.append_assoc]
        rw [← List.append_assoc, ← hlen]
        exact List.take_left
theorem run_growZ {t tx ty e : TypeId} {z : Value} {sz bytes m n c : Nat} {x : Value} {A : Option Addr} {olds ys : List Value} {w : World} [ut : UT P t (.slice e)] [ux : UT P tx .string] [it : IT P e z sz bytes] (src : Src P s h x sz m ys) (hw : Mem s h w)
    (hA : A = none → n = 0) (hlo : olds.length = n * sz) (holds : ∀ b, A = some b → ∀ j u, olds[j]? = some u → w.cell? (b.add j) = some u) (hg : c < n + m) (hb : (n + m) * bytes ≤ 140737488355328) (h63 : n + m ≤ 9223372036854775807) :
    (Builtin.append_ #[t, tx] ty #[.slice A n c, x]).run P w = .ok (.slice (some ⟨w.heap.size, 0, none⟩) (n + m) (grownCap w (n + m) c e)) (w.drew.alloc (.cells (olds.toArray ++ ys.toArray ++ Builtin.zeroCells z.cells (grownCap w (n + m) c e - (n + m))) e)) := by
  obtain ⟨i, h1, h2, h3, h4⟩ := it.out
  subst h3
  subst h4
  have hn : ¬ (n + m ≤ c) := by omega
  have h63' : ¬ (9223372036854775807 < ((n : Int) + (m : Int))) := by omega
  have h48' : ¬ (281474976710656 < Builtin.nextslicecap (n + m) c * i.bytes) := by have := growslice_fits hg hb; omega
  have hf := src.cells w.drew hw.drew
  have hfo : (Builtin.firstCells i.size n (.slice A n c)).run P w.drew = .ok olds.toArray w.drew := by
    cases A with
    | none =>
      have := hA rfl
      subst this
      have : olds = [] := List.eq_nil_of_length_eq_zero (by simpa using hlo)
      subst this
      rfl
    | some b => exact run_firstCells_some (P := P) w.drew i.size n b n c olds hlo (by simpa using holds b rfl)
  simp [Builtin.append_, run_underlying ut.out, run_underlying ux.out, sizeOf, typeInfo, zeroValue, h1, h2, src.len, hn, h63', h48', Question.forced, hf, hfo, newRow, grownCap]
  congr 2
  apply Array.ext'
  simp [List.append_assoc]
theorem run_roomZ {t tx ty e : TypeId} {z : Value} {sz bytes m n c g : Nat} {x : Value} {ys : List Value} {cur : Array Value} {w : World} [ut : UT P t (.slice e)] [ux : UT P tx .string] [it : IT P e z sz bytes] (src : Src P s h x sz m ys) (hw : Mem s h w)
    (hg : w.heap[g]? = some (.cells cur e (0, 0))) (hr : n + m ≤ c) (hfit : n * sz + ys.length ≤ cur.size) :
    (Builtin.append_ #[t, tx] ty #[.slice (some ⟨g, 0, none⟩) n c, x]).run P w = .ok (.slice (some ⟨g, 0, none⟩) (n + m) c) (w.setRow g (cur.toList.take (n * sz) ++ ys ++ cur.toList.drop (n * sz + ys.length)).toArray) := by
  obtain ⟨i, h1, h2, h3, h4⟩ := it.out
  subst h3
  subst h4
  have hf := src.cells w hw
  have hst := run_storeCells_at P g (n * i.size) e ys 0 cur w hg (by simpa using hfit) src.one
  simp only [Nat.add_zero] at hst
  simp [Builtin.append_, run_underlying ut.out, run_underlying ux.out, sizeOf, typeInfo, h1, src.len, hr, hf, Addr.add_lit, hst]
theorem run_noneZ {t tx ty e : TypeId} {z : Value} {sz bytes : Nat} {x : Value} {A : Option Addr} {n c : Nat} {w : World} [ut : UT P t (.slice e)] [ux : UT P tx .string] [it : IT P e z sz bytes] (src : Src P s h x sz 0 []) (hw : Mem s h w) (hr : n ≤ c) :
    (Builtin.append_ #[t, tx] ty #[.slice A n c, x]).run P w = .ok (.slice A n c) w := by
  obtain ⟨i, h1, h2, h3, h4⟩ := it.out
  subst h3
  subst h4
  have hf := src.cells w hw
  cases A <;> simp [Builtin.append_, run_underlying ut.out, run_underlying ux.out, sizeOf, typeInfo, h1, src.len, hr, hf, storeCells]
/-- Onto a slice without room (all of it may be read; nil, too): a new row, owned. -/
theorem Eff.growZ {t tx e : TypeId} {z : Value} {sz bytes m n c : Nat} {x y : Operand} {A : Option Addr} {u : Value} {olds ys : List Value} [ut : UT P t (.slice e)] [ux : UT P tx .string] [it : IT P e z sz bytes] (ho : o.op = .call { callee := .builtin .append, args := #[x, y], argTypes := #[t, tx] })
    (hx : f.val x = some (.slice A n c)) (hy : f.val y = some u) (src : Src P s h u sz m ys) (hs : Sl s A n c sz olds) (hA : A = none → n = 0) (hg : c < n + m) (hb : (n + m) * bytes ≤ 140737488355328) (h63 : n + m ≤ 9223372036854775807) :
    Eff P f s h o (fun e' s' h' => ∃ A' c', e' = .returned (.slice A' (n + m) c') ∧ s' = s ∧ h' = .buf (.slice A' (n + m) c') e sz (n + m) (olds ++ ys) :: h) :=
  Eff.of_run fun a w h1 hw => by
    have hr := run_growZ (P := P) (ty := o.type) (t := t) (tx := tx) src hw hA hs.len (fun b hb j u hj => by subst hb; exact hw.cell (hs.at_ j u hj).2) hg hb h63
    have hge := grownCap_ge w (n + m) c e
    have hcm : grownCap w (n + m) c e ≤ maxLen := grownCap_le_maxLen w (n + m) c e (by simp only [maxLen]; omega)
    have hlen : (olds ++ ys).length = (n + m) * sz := by rw [List.length_append, hs.len, src.num, Nat.add_mul]
    have hown : (w.drew.alloc (.cells (olds.toArray ++ ys.toArray ++ Builtin.zeroCells z.cells (grownCap w (n + m) c e - (n + m))) e)).ownsRow 0 e sz (.slice (some ⟨w.heap.size, 0, none⟩) (n + m) (grownCap w (n + m) c e)) (n + m) (olds ++ ys) := by
      refine ⟨hlen, .inr ⟨w.heap.size, _, _, rfl, Nat.zero_le _, heap_alloc_new w.drew _, hge, hcm, ?_, ?_⟩⟩
      · simp only [Array.size_append, List.size_toArray, size_zeroCells, it.cs, hs.len, src.num, ← Nat.add_mul]
        congr 1
        omega
      · simp only [Array.toList_append, List.append_assoc]
        rw [← List.append_assoc, ← hlen]
        exact List.take_left
    have hnew : Cur w s [] s [.buf (.slice (some ⟨w.heap.size, 0, none⟩) (n + m) (grownCap w (n + m) c e)) e sz (n + m) (olds ++ ys)] (w.drew.alloc (.cells (olds.toArray ++ ys.toArray ++ Builtin.zeroCells z.cells (grownCap w (n + m) c e - (n + m))) e)) := by
      have c0 := Cur.alloc (w := w.drew) hw.drew (.cells (olds.toArray ++ ys.toArray ++ Builtin.zeroCells z.cells (grownCap w (n + m) c e - (n + m))) e)
      refine ⟨⟨c0.mem.im, fun x hx => ?_, by simp [keys, Ent.keys, Value.ownBlock], fun g hgk => c0.mem.dj g (by simpa [keys, Ent.keys, Value.ownBlock] using hgk)⟩, ⟨c0.ext.os, c0.ext.tape, c0.ext.output, c0.ext.size, c0.ext.block⟩, c0.le, c0.fs, fun g hgk => c0.fh g (by simpa [keys, Ent.keys, Value.ownBlock] using hgk)⟩
      rw [List.mem_singleton] at hx
      subst hx
      exact hown
    refine ⟨_, s, _, _, ?_, ⟨_, _, rfl, rfl, rfl⟩, Cur.step0 (Cur.start hw) hnew⟩
    simp [execOp, ho, resolve, invoke, builtin, h1.eval hx, h1.eval hy, hr]
/-- Onto a slice that is owned. -/
theorem Eff.appZ {t tx e : TypeId} {z : Value} {sz bytes m n c : Nat} {x y : Operand} {A : Option Addr} {u : Value} {xs ys : List Value} {h2 : List Ent} [ut : UT P t (.slice e)] [ux : UT P tx .string] [it : IT P e z sz bytes] (ho : o.op = .call { callee := .builtin .append, args := #[x, y], argTypes := #[t, tx] })
    (hx : f.val x = some (.slice A n c)) (hy : f.val y = some u) (src : Src P s h u sz m ys) (hm : Pick (.buf (.slice A n c) e sz n xs) h h2) (hb : (n + m) * bytes ≤ 140737488355328) (h63 : n + m ≤ 9223372036854775807) :
    Eff P f s h o (fun e' s' h' => ∃ A' c', e' = .returned (.slice A' (n + m) c') ∧ s' = s ∧ h' = .buf (.slice A' (n + m) c') e sz (n + m) (xs ++ ys) :: h2) :=
  Eff.of_run fun a w h1 hw => by
    have hown : w.ownsRow 0 e sz (.slice A n c) n xs := hw.own (.buf (.slice A n c) e sz n xs) (hm.perm.mem_iff.2 (List.mem_cons_self ..))
    have hlen : (xs ++ ys).length = (n + m) * sz := by rw [List.length_append, hown.1, src.num, Nat.add_mul]
    have hex : ∀ v w', (Builtin.append_ #[t, tx] o.type #[.slice A n c, u]).run P w = .ok v w' → (execOp a.eval o).run P w = .ok (.value v) w' := fun v w' hr => by simp [execOp, ho, resolve, invoke, builtin, h1.eval hx, h1.eval hy, hr]
    by_cases hroom : n + m ≤ c
    · rcases hown.2 with ⟨e1, hn0⟩ | ⟨g, cap, cur, e1, hbg, hg, hnc, hcm, hcs, htake⟩
      · simp only [Value.slice.injEq] at e1
        obtain ⟨rfl, rfl, rfl⟩ := e1
        have hm0 : m = 0 := by omega
        subst hm0
        have hys : ys = [] := List.eq_nil_of_length_eq_zero (by simpa using src.num)
        subst hys
        refine ⟨_, s, _, w, hex _ _ (run_noneZ (P := P) (t := t) (tx := tx) src hw (Nat.le_refl _)), ⟨none, 0, rfl, rfl, rfl⟩, ?_⟩
        simp only [List.append_nil]
        exact (Cur.start hw).perm hm.perm |> fun c => ⟨c.mem, c.ext, c.le, c.fs, c.fh⟩
      · simp only [Value.slice.injEq] at e1
        obtain ⟨rfl, -, rfl⟩ := e1
        have hfit : n * sz + ys.length ≤ cur.size := by rw [src.num, hcs, ← Nat.add_mul]; exact Nat.mul_le_mul_right _ hroom
        have hr := run_roomZ (P := P) (ty := o.type) (t := t) (tx := tx) src hw hg hroom hfit
        refine ⟨_, s, _, _, hex _ _ hr, ⟨_, _, rfl, rfl, rfl⟩, Cur.buf hw hm ⟨hlen, .inr ⟨g, c, _, rfl, Nat.zero_le _, setRow_heap w g cur _ e _ hg, hroom, hcm, ?_, ?_⟩⟩ ⟨rfl, rfl, rfl, by simp, fun k _ hk => setRow_other w g k _ (fun e => hk (by simp [Value.ownBlock, e]))⟩ (.inl rfl)⟩
        · simp only [List.size_toArray, List.length_append, List.length_take, List.length_drop, Array.length_toList]
          omega
        · rw [htake, ← hlen]
          exact List.take_left
    · have hA : A = none → n = 0 := by
        rintro rfl
        rcases hown.2 with ⟨e1, hn0⟩ | ⟨g, cap, cur, e1, _⟩
        · exact hn0
        · cases e1
      have hr := run_growZ (P := P) (ty := o.type) (t := t) (tx := tx) (n := n) (c := c) (A := A) (olds := xs) src hw hA hown.1 (fun b hb j u hj => by
        subst hb
        rcases hown.2 with ⟨e1, hn0⟩ | ⟨g, cap, cur, e1, _⟩
        · cases e1
        · simp only [Value.slice.injEq, Option.some.injEq] at e1
          obtain ⟨rfl, -, -⟩ := e1
          exact hown.cells (g := g) rfl j u hj) (by omega) hb h63
      have hge := grownCap_ge w (n + m) c e
      have hcm : grownCap w (n + m) c e ≤ maxLen := grownCap_le_maxLen w (n + m) c e (by simp only [maxLen]; omega)
      refine ⟨_, s, _, _, hex _ _ hr, ⟨_, _, rfl, rfl, rfl⟩, Cur.buf hw hm ⟨hlen, .inr ⟨w.heap.size, _, _, rfl, Nat.zero_le _, heap_alloc_new w.drew _, hge, hcm, ?_, ?_⟩⟩ ⟨rfl, rfl, rfl, by simp, fun k hk _ => heap_alloc_old w.drew _ hk⟩ (.inr fun b hb => by simp [Value.ownBlock] at hb; omega)⟩
      · simp only [Array.size_append, List.size_toArray, size_zeroCells, it.cs, hown.1, src.num, ← Nat.add_mul]
        congr 1
        omega
      · simp only [Array.toList_append, List.append_assoc]
        rw [← List.append_assoc, ← hlen]
        exact List.take_left
end
end Go.Proofs.Ytnndjobhcncanaa
