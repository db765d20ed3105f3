/- The calculus: cells of slices that are owned, two operations in either order, empty slices. No statement of the seat is proved here. -/
import Derived.Test.YtnndjobhcncanaaN1
import Derived.Test.YtnndjobhcncanaaM2
namespace Go.Proofs.Ytnndjobhcncanaa
open Go.RowKit
section
variable {P : Program} {C : Ctx} {n : Nat} {k : List Item} {f : Fr} {s : Store} {h : List Ent} {ops : Array Oper} {os : List Oper} {o : Oper} {sS : Store} {hS : List Ent} {ds : List Nat} {m : Nat} {l : Array Bool} {v : Value}
/-! ### Slices held against nil -/
theorem run_equalIn_sl {d : Nat} {t e : TypeId} {a0 : Addr} {n c : Nat} {w : World} [ut : UT P t (.slice e)] : (Op.equalIn (d + 1) t (.slice (some a0) n c) (.slice none 0 0)).run P w = .ok false w := by
  simp only [Op.equalIn, Sem.run_bind, run_underlying ut.out, Result.andThen_ok, Sem.run_pure]
theorem PEv.eqNilS {t t' e : TypeId} {x : Operand} {a0 : Addr} {n c : Nat} [ut : UT P t (.slice e)] (ho : o.op = .binOp .eql t x (.const (.slice none 0 0)) t') (hx : f.val x = some (.slice (some a0) n c)) : PEv P f s h o (.bool false) := fun a w h1 _ => by
  have hy : a.eval (.const (.slice none 0 0)) = .slice none 0 0 := rfl
  simp only [execOp, ho, h1.eval hx, hy, eqGuard, binOp, Op.equal, Op.maxDepth, Sem.run_bind, run_equalIn_sl (P := P) (d := 9999) (t := t), Bool.not_true, Bool.false_eq_true, if_false, Sem.run_pure, Result.andThen_ok]
theorem Eff.buildSlice0 {t e : TypeId} {z : Value} {sz b : Nat} [ut : UT P t (.slice e)] [it : IT P e z sz b] (ho : o.op = .buildSlice t 0 #[]) :
    Eff P f s h o (fun e' s' h' => ∃ g, e' = .returned (.slice (some ⟨g, 0, none⟩) 0 0) ∧ h' = h) :=
  Eff.of_run fun a w h1 h2 => by
    obtain ⟨s', hc, hs', hle⟩ := Cur.newS h2 (.cells #[] e)
    refine ⟨_, s', h, _, ?_, ⟨w.heap.size, rfl, rfl⟩, hc⟩
    simp [execOp, ho, Instr.buildSlice, run_underlying ut.out, run_size (P := P) (t := e), Instr.fill, run_newRow]
    refine congrArg w.alloc (congrArg (fun c => Obj.cells c e (0, 0)) ?_)
    apply Array.ext <;> simp
theorem GL.lit0 {t e : TypeId} {z : Value} {sz b : Nat} {d : Tmp} [ut : UT P t (.slice e)] [it : IT P e z sz b] (ho : o.op = .buildSlice t 0 #[]) (H : ∀ g s', s.le s' → GL P C n ops os k ((d, .slice (some ⟨g, 0, none⟩) 0 0) :: f) s' h)
    (hd : o.dst = some d := by exact rfl) (hw : Wants ops f o true := by first | exact Wants.all rfl | exact Wants.at_ rfl rfl rfl rfl) (hn : Nat.blt d n = true := by exact rfl) : GL P C n ops (o :: os) k f s h :=
  GL.eff hd hw (Eff.buildSlice0 ho) hn (by rintro v s' h' ⟨g, e, rfl⟩ hle; cases e; exact H g s' hle) (by rintro _ _ _ ⟨g, e, _⟩; cases e)
theorem Sl.empty (s : Store) (A : Option Addr) (sz : Nat) : Sl s A 0 0 sz [] := ⟨by simp, Nat.le_refl _, by omega, fun j u e => by simp at e⟩
/-! ### Places in slices, by their address -/
theorem PEv.indexP {t e : TypeId} {x y : Operand} {ad : Addr} {n c : Nat} {k : IntKind} {i : Int} {z : Value} {sz b : Nat} [ut : UT P t (.slice e)] [it : IT P e z sz b] (ho : o.op = .indexAddr t x y) (hx : f.val x = some (.slice (some ad) n c)) (hy : f.val y = some (.int k i))
    (h0 : 0 ≤ i) (h1 : i < n) : PEv P f s h o (.pointer (some (ad.add (i.toNat * sz)))) := fun a w h2 _ => by
  simp [execOp, ho, h2.eval hx, h2.eval hy, Instr.indexAt, asIntOf, run_underlying ut.out, run_size (P := P) (w := w) (t := e), h0, h1]
theorem World.ownsRow.at_ {w : World} {e : TypeId} {sz n c g : Nat} {xs : List Value} (h : w.ownsRow 0 e sz (.slice (some ⟨g, 0, none⟩) n c) n xs) {j : Nat} {u : Value} (hj : xs[j]? = some u) : w.cell? ⟨g, j, none⟩ = some u := by
  rcases h.2 with ⟨e1, _⟩ | ⟨g', cap, cur, e1, _, hg, _, _, _, htake⟩
  · cases e1
  · simp only [Value.slice.injEq, Option.some.injEq, Addr.mk.injEq] at e1
    obtain ⟨⟨rfl, -, -⟩, -, rfl⟩ := e1
    rw [cell_blk hg]
    rw [← htake, List.getElem?_take] at hj
    split at hj
    · simpa using hj
    · cases hj
theorem PEv.loadBuf {t : TypeId} {x : Operand} {g n c sz j : Nat} {e : TypeId} {xs : List Value} {d : TypeDesc} [ut : UT P t d] (ho : o.op = .load t x) (hx : f.val x = some (.pointer (some ⟨g, j, none⟩))) (hd : (isAggD d) = false)
    (hm : Ent.buf (.slice (some ⟨g, 0, none⟩) n c) e sz n xs ∈ h) (hj : xs[j]? = some v) : PEv P f s h o v := PEv.load1 ho hx hd (fun _ m => World.ownsRow.at_ (m.own _ hm) hj)
theorem Eff.storeBuf {t : TypeId} {x y : Operand} {g j n c sz : Nat} {e : TypeId} {xs : List Value} {z : Value} {b : Nat} {h2 : List Ent} [it : IT P t z 1 b] (ho : o.op = .store t x y) (hx : f.val x = some (.pointer (some ⟨g, j, none⟩))) (hy : f.val y = some v) (hv : v.oneCell' = true)
    (hm : Pick (.buf (.slice (some ⟨g, 0, none⟩) n c) e sz n xs) h h2) (hj : j < xs.length) :
    Eff P f s h o (fun e' s' h' => e' = .returned undef ∧ s' = s ∧ h' = .buf (.slice (some ⟨g, 0, none⟩) n c) e sz n (xs.set j v) :: h2) :=
  Eff.of_skip fun a w h1 m => by
    have hp := hm.perm
    have hown : w.ownsRow 0 e sz (.slice (some ⟨g, 0, none⟩) n c) n xs := m.own (.buf _ e sz n xs) (hp.mem_iff.2 (List.mem_cons_self ..))
    have hlen := hown.1
    rcases hown.2 with ⟨e1, _⟩ | ⟨g', cap, cur, e1, hbg, hg, hnc, hcm, hcs, htake⟩
    · cases e1
    simp only [Value.slice.injEq, Option.some.injEq, Addr.mk.injEq] at e1
    obtain ⟨⟨rfl, -, -⟩, -, rfl⟩ := e1
    have hjc : j < cur.size := by
      have : xs.length ≤ cur.size := by rw [← htake]; simp; omega
      omega
    have hcell : w.cell? ⟨g, j, none⟩ = some cur[j] := by rw [cell_blk hg]; simp [hjc]
    have hfr : w.frozen? ⟨g, j, none⟩ = false := by simp [World.frozen?, hg]
    have hsz : v.cells = #[v] := by cases v <;> simp_all [Value.cells, Value.oneCell']
    have hst : (store ⟨g, j, none⟩ v).run P w = .ok () (w.setCell ⟨g, j, none⟩ v) := by rw [run_store P w ⟨g, j, none⟩ v .plain hv, hcell]; simp [hfr]
    have hblk : (w.setCell ⟨g, j, none⟩ v).heap[g]? = some (.cells (cur.setIfInBounds j v) e (0, 0)) := by
      simp only [World.setCell, Array.getElem?_modify, if_true, hg, Option.map_some]
      try rfl
    refine ⟨s, _, w.setCell ⟨g, j, none⟩ v, ?_, ⟨rfl, rfl, rfl⟩, Cur.buf m hm ⟨by rw [List.length_set]; exact hlen, .inr ⟨g, c, cur.setIfInBounds j v, rfl, Nat.zero_le _, hblk, hnc, hcm, by simpa using hcs, ?_⟩⟩ ⟨rfl, rfl, rfl, by simp [World.setCell], fun k _ hk => Below.heap_setCell w ⟨g, j, none⟩ v k (fun e => hk (by simp [Value.ownBlock, e]))⟩ (.inl rfl)⟩
    · simp only [execOp, ho, h1.eval hx, h1.eval hy, Instr.storeAt, Instr.sureAddr, storeVar, Sem.run_bind, Sem.run_pure, Result.andThen_ok, run_size (P := P) (t := t), hsz]
      simp [storeCells, Addr.add, hst]
    · rw [Array.toList_setIfInBounds, List.take_set, htake]
/-- Where a slice that is owned stands, if it is not empty. -/
theorem G.bufAt {A : Option Addr} {nn c sz : Nat} {e : TypeId} {xs : List Value} {h2 : List Ent} {todo : List Item} (hm : Pick (.buf (.slice A nn c) e sz nn xs) h h2) (hn : 0 < nn) (H : ∀ g, A = some ⟨g, 0, none⟩ → nn ≤ c → G P C n todo f s h) : G P C n todo f s h := fun a w h1 h2' h3 h4 => by
  have hown : w.ownsRow 0 e sz (.slice A nn c) nn xs := h4.mem.own (.buf _ e sz nn xs) (hm.perm.mem_iff.2 (List.mem_cons_self ..))
  rcases hown.2 with ⟨_, h0⟩ | ⟨g, cap, cur, e1, _, _, hnc, _⟩
  · omega
  · simp only [Value.slice.injEq] at e1
    obtain ⟨h5, -, h6⟩ := e1
    exact H g h5 (by omega) a w h1 h2' h3 h4
/-! ### Two operations that act, in either order -/
open Go.Proofs.YtnndjobhcncanaaW.PrintLast in
def GO (P : Program) (C : Ctx) (n : Nat) (ops : Array Oper) (sS : Store) (hS : List Ent) (ds : List Nat) (m : Nat) (l' : Array Bool) (o : Oper) (k : List Item) (f : Fr) (s : Store) (h : List Ent) : Prop :=
  ∀ a w, a.tmps.size = n → f.ok a → a.defers = C.D → C.cur s h w → ∀ K : Act → World → Prop, (∀ a' w', Mem sS hS w' → (Mem sS hS w' → wpAnyLast P .any ops (fun e a' w' => a'.defers = C.D ∧ QK P C k e a' w') (Mem sS hS) ds m l' a' w') → K a' w') →
    if Region.wanted o (yielded ops a.tmps) = true then Oper.wp P o a w K (fun e a' w' => a'.defers = C.D ∧ QK P C k e a' w') else K (a.put o.dst undef) w
theorem GO.eff {d : Tmp} {next : Ending → Store → List Ent → Prop} {l' : Array Bool} (hd : o.dst = some d) (hw : Wants ops f o true) (he : Eff P f s h o next) (hle : sS.le s) (hn : Nat.blt d n = true)
    (hkeep : ∀ v s' h', next (.returned v) s' h' → ∃ r, Split hS h' r)
    (H : ∀ v s' h', next (.returned v) s' h' → s.le s' → GD P C n ops sS hS ds m l' k ((d, v) :: f) s' h')
    (HP : ∀ ch s' h', next (.panicked ch) s' h' → s.le s' → GR P C n (.panicking ch) f s' h') : GO P C n ops sS hS ds m l' o k f s h :=
  fun a w h1 h2 h3 h4 K hK => by
    rw [if_pos (hw a h2)]
    refine he a w K _ h2 h4.mem (fun v s' h' w' hx c => ?_) (fun ch s' h' w' hx c => ⟨h3, fun _ => ?_⟩)
    · rw [hd]
      obtain ⟨r, hr⟩ := hkeep v s' h' hx
      refine hK _ w' (c.mem.hsub hr (hle.trans c.le)) (fun _ => H v s' h' hx c.le _ w' (act_size.trans h1) (Fr.ok_put h2 (by rw [h1]; simpa [Nat.blt_eq] using hn)) (act_defers.trans h3) (Cur.after h4 c))
    · have ⟨x, y⟩ := HP ch s' h' hx c.le
      exact ⟨x, _, rfl, h3 ▸ y a w' h1 h2 h3 (Cur.after h4 c)⟩
theorem GO.call {l' : Array Bool} {g : FuncId} {xs : List Operand} {ts : Array TypeId} {vs : List Value} {h1 r : List Ent} {post : Ending → Store → List Ent → Prop} {d : Tmp} [en : Enters P g] (ho : o.op = .call { callee := .value (.func g), args := xs.toArray, argTypes := ts }) (hx : f.vals xs = some vs)
    (hc : Fn P g vs.toArray s h1 post) (hs : Split h1 h r) (H : ∀ v s' h1', post (.returned v) s' h1' → s.le s' → GD P C n ops sS hS ds m l' k ((d, v) :: f) s' (h1' ++ r)) (hkeep : ∀ v s' h1', post (.returned v) s' h1' → ∃ q, Split hS (h1' ++ r) q)
    (hno : ∀ s' h', ¬ post .outgrown s' h' := by intro _ _ hh; simp at hh) (hnp : ∀ ch s' h', ¬ post (.panicked ch) s' h' := by intro _ _ _ hh; simp at hh)
    (hd : o.dst = some d := by exact rfl) (hw : Wants ops f o true := by first | exact Wants.all rfl | exact Wants.at_ rfl rfl rfl rfl) (hle : sS.le s := by first | exact Store.le.refl _ | assumption) (hn : Nat.blt d n = true := by exact rfl) : GO P C n ops sS hS ds m l' o k f s h :=
  GO.eff hd hw (Eff.call ho hx hc hs hno) hle hn (by rintro v s' h' ⟨h1', hp, rfl⟩; exact hkeep v s' h1' hp) (by rintro v s' h' ⟨h1', hp, rfl⟩ hle; exact H v s' h1' hp hle) (by rintro ch s' h' ⟨h1', hp, _⟩ _; exact absurd hp (hnp ch s' h1'))
theorem Split.skip {x : Ent} {hs h r : List Ent} (p : Split hs h r) : Split hs (x :: h) (x :: r) := by
  induction p with
  | nil => exact .nil
  | cons hp _ ih => exact .cons (.tail hp) ih
theorem GO.allocA {l' : Array Bool} {t : TypeId} {c : List Value} {sz b : Nat} {d : Tmp} [it : IT P t (.agg c.toArray) sz b] (ho : o.op = .alloc t) (H : ∀ g, GD P C n ops sS hS ds m l' k ((d, .pointer (some ⟨g, 0, none⟩)) :: f) s (.blk g (.cells c.toArray t (0, 0)) :: h)) {r : List Ent} (hkeep : Split hS h r := by (first | exact Split.refl _ | ((try dsimp only); repeat (first | exact Split.nil | (apply Split.cons; (repeat (first | exact Pick.head | apply Pick.tail)))))))
    (hd : o.dst = some d := by exact rfl) (hw : Wants ops f o true := by first | exact Wants.all rfl | exact Wants.at_ rfl rfl rfl rfl) (hle : sS.le s := by first | exact Store.le.refl _ | assumption) (hn : Nat.blt d n = true := by exact rfl) : GO P C n ops sS hS ds m l' o k f s h :=
  GO.eff hd hw (Eff.allocA ho) hle hn (by rintro v s' h' ⟨g, e, rfl, rfl⟩; exact ⟨_, Split.skip hkeep⟩) (by rintro v s' h' ⟨g, e, rfl, rfl⟩ _; cases e; exact H g) (by rintro _ _ _ ⟨g, e, _⟩; cases e)
open Go.Proofs.YtnndjobhcncanaaW.PrintLast in
theorem GD.two {i j : Nat} {oi oj : Oper} (li lj : Array Bool) (hi : ops[i]? = some oi) (hj : ops[j]? = some oj) (hc : (Region.ready .any ops l == [i, j] && l.setIfInBounds i true == li && l.setIfInBounds j true == lj) = true) (hdi : i ∉ ds) (hdj : j ∉ ds)
    (h1 : GO P C n ops sS hS ds m li oi k f s h) (h2 : GO P C n ops sS hS ds m lj oj k f s h) : GD P C n ops sS hS ds (m + 1) l k f s h :=
  fun a w a1 a2 a3 a4 => two_ li lj hi hj rfl rfl hc hdi hdj (fun K hK => h1 a w a1 a2 a3 a4 K hK) (fun K hK => h2 a w a1 a2 a3 a4 K hK)
theorem GD.allocA (i : Nat) (l' : Array Bool) {t : TypeId} {c : List Value} {sz b : Nat} {d : Tmp} [it : IT P t (.agg c.toArray) sz b] (hi : ops[i]? = some o) (ho : o.op = .alloc t) (H : ∀ g, GD P C n ops sS hS ds m l' k ((d, .pointer (some ⟨g, 0, none⟩)) :: f) s (.blk g (.cells c.toArray t (0, 0)) :: h)) {r : List Ent} (hkeep : Split hS h r := by (first | exact Split.refl _ | ((try dsimp only); repeat (first | exact Split.nil | (apply Split.cons; (repeat (first | exact Pick.head | apply Pick.tail)))))))
    (hds : i ∉ ds := by simp) (hd : o.dst = some d := by exact rfl) (hw : Wants ops f o true := by first | exact Wants.all rfl | exact Wants.at_ rfl rfl rfl rfl) (hcc : Go.Proofs.YtnndjobhcncanaaW.PrintLast.readyB .any ops l l' i = true := by kernel_rfl) (hle : sS.le s := by first | exact Store.le.refl _ | assumption) (hn : Nat.blt d n = true := by exact rfl) : GD P C n ops sS hS ds (m + 1) l k f s h :=
  GD.eff l' hi hd hcc hds hw (Eff.allocA ho) hle hn (by rintro v s' h' ⟨g, e, rfl, rfl⟩; exact ⟨_, Split.skip hkeep⟩) (by rintro v s' h' ⟨g, e, rfl, rfl⟩ _; cases e; exact H g) (by rintro _ _ _ ⟨g, e, _⟩; cases e)
theorem GD.storeN (i : Nat) (l' : Array Bool) {t : TypeId} {x y : Operand} {g j : Nat} {c c' lv : List Value} {e : TypeId} {z : Value} {sz b : Nat} {h2 : List Ent} [it : IT P t z sz b] (H : GD P C n ops sS hS ds m l' k f s (.blk g (.cells c'.toArray e (0, 0)) :: h2)) (hi : ops[i]? = some o := by exact rfl) (ho : o.op = .store t x y := by exact rfl) (hx : f.val x = some (.pointer (some ⟨g, j, none⟩)) := by exact rfl) (hy : f.val y = some (.agg lv.toArray) := by exact rfl)
    (hv : (lv.all fun v => v.oneCell') = true := by exact rfl) (hm : Pick (.blk g (.cells c.toArray e (0, 0))) h h2 := by (repeat (first | exact Pick.head | apply Pick.tail))) (hj : Nat.ble (j + lv.length) c.length = true := by exact rfl) (hl : lv.length = sz := by exact rfl) (hc : setL c j lv = c' := by exact rfl) (hd : o.dst = none := by exact rfl) (hw : Wants ops f o true := by first | exact Wants.all rfl | exact Wants.at_ rfl rfl rfl rfl) (hds : i ∈ ds := by simp) (hcc : Go.Proofs.YtnndjobhcncanaaW.PrintLast.readyB .any ops l l' i = true := by kernel_rfl) : GD P C n ops sS hS ds (m + 1) l k f s h :=
  GD.last0 l' hi hd hcc hds hw (Eff.storeN ho hx hy hv hm (Nat.le_of_ble_eq_true hj) hl hc) (by rintro v s' h' ⟨_, rfl, rfl⟩ _; exact H) (by rintro _ _ _ ⟨e, _⟩; cases e)
theorem GD.storeBuf (i : Nat) (l' : Array Bool) {t : TypeId} {x y : Operand} {g j nn c sz : Nat} {e : TypeId} {xs : List Value} {z v : Value} {b : Nat} {h2 : List Ent} [it : IT P t z 1 b] (hi : ops[i]? = some o) (ho : o.op = .store t x y) (hj : j < xs.length) (H : GD P C n ops sS hS ds m l' k f s (.buf (.slice (some ⟨g, 0, none⟩) nn c) e sz nn (xs.set j v) :: h2)) (hx : f.val x = some (.pointer (some ⟨g, j, none⟩)) := by exact rfl) (hy : f.val y = some v := by exact rfl)
    (hv : v.oneCell' = true := by exact rfl) (hm : Pick (.buf (.slice (some ⟨g, 0, none⟩) nn c) e sz nn xs) h h2 := by (repeat (first | exact Pick.head | apply Pick.tail))) (hd : o.dst = none := by exact rfl) (hw : Wants ops f o true := by first | exact Wants.all rfl | exact Wants.at_ rfl rfl rfl rfl) (hds : i ∈ ds := by simp) (hcc : Go.Proofs.YtnndjobhcncanaaW.PrintLast.readyB .any ops l l' i = true := by kernel_rfl) : GD P C n ops sS hS ds (m + 1) l k f s h :=
  GD.last0 l' hi hd hcc hds hw (Eff.storeBuf ho hx hy hv hm hj) (by rintro v s' h' ⟨_, rfl, rfl⟩ _; exact H) (by rintro _ _ _ ⟨e, _⟩; cases e)
end
end Go.Proofs.Ytnndjobhcncanaa
