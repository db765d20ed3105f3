/- The calculus, eighth part: function values called, slices made and grown in regions that draw; a struct as a result in memory. No statement of the seat is proved here. -/
import Derived.Test.YtnndjobhcncanaaJ
namespace Go.Proofs.Ytnndjobhcncanaa
open Go.RowKit
section
variable {P : Program} {C : Ctx} {n : Nat} {k : List Item} {f : Fr} {s : Store} {h : List Ent} {ops : Array Oper} {o : Oper} {sS : Store} {hS : List Ent} {ds : List Nat} {m : Nat} {l : Array Bool}
theorem GD.re (d : Nat) (v : Value) (H : GD P C n ops sS hS ds m l k ((d, v) :: f) s h) (hv : f.get d = some v := by exact rfl) : GD P C n ops sS hS ds m l k f s h := fun a w h1 h2 h3 h4 => by
  refine H a w h1 (fun i u e => ?_) h3 h4
  simp only [Fr.get] at e
  cases hb : Nat.beq i d with
  | true => rw [hb] at e; simp at e; subst e; rw [Nat.eq_of_beq_eq_true hb]; exact h2 d _ hv
  | false => rw [hb] at e; exact h2 i u e
theorem GD.callV (i : Nat) (l' : Array Bool) {t : Tmp} {g : FuncId} {xs : List Operand} {ts : Array TypeId} {vs fs cs : List Value} {h1 r : List Ent} {post : Ending → Store → List Ent → Prop} {d : Tmp} [en : Enters P g] (hi : ops[i]? = some o) (ho : o.op = .call { callee := .value (.tmp t), args := xs.toArray, argTypes := ts }) (hf : f.get t = some (.func (.func g) fs.toArray cs.toArray)) (hx : f.vals xs = some vs)
    (hc : Fn P g (fs ++ vs ++ cs).toArray s h1 post) (hs : Split h1 h r) (H : ∀ v s' h1', post (.returned v) s' h1' → s.le s' → GD P C n ops sS hS ds m l' k ((d, v) :: f) s' (h1' ++ r)) (hkeep : ∀ v s' h1', post (.returned v) s' h1' → ∃ q, Split hS (h1' ++ r) q)
    (hno : ∀ s' h', ¬ post .outgrown s' h' := by intro _ _ hh; simp at hh) (hnp : ∀ ch s' h', ¬ post (.panicked ch) s' h' := by intro _ _ _ hh; simp at hh) (hds : i ∉ ds := by simp)
    (hd : o.dst = some d := by exact rfl) (hw : Wants ops f o true := by first | exact Wants.all rfl | exact Wants.at_ rfl rfl rfl rfl) (hcc : Go.Proofs.YtnndjobhcncanaaW.PrintLast.readyB .any ops l l' i = true := by kernel_rfl) (hle : sS.le s := by first | exact Store.le.refl _ | assumption) (hn : Nat.blt d n = true := by exact rfl) : GD P C n ops sS hS ds (m + 1) l k f s h :=
  GD.eff l' hi hd hcc hds hw (Eff.callV ho hf hx hc hs hno) hle hn (by rintro v s' h' ⟨h1', hp, rfl⟩; exact hkeep v s' h1' hp) (by rintro v s' h' ⟨h1', hp, rfl⟩ hle; exact H v s' h1' hp hle) (by rintro ch s' h' ⟨h1', hp, _⟩ _; exact absurd hp (hnp ch s' h1'))
theorem GD.litA (i : Nat) (l' : Array Bool) {t e : TypeId} {x : Operand} {xs : List Value} {z : Value} {sz b : Nat} {d : Tmp} [ut : UT P t (.slice e)] [it : IT P e z sz b] (hi : ops[i]? = some o) (ho : o.op = .buildSlice t 1 #[(0, x)]) (H : ∀ A s', s.le s' → Sl s' A 1 1 sz xs → GD P C n ops sS hS ds m l' k ((d, .slice A 1 1) :: f) s' h) {r : List Ent} (hkeep : Split hS h r := by (first | exact Split.refl _ | ((try dsimp only); repeat (first | exact Split.nil | (apply Split.cons; (repeat (first | exact Pick.head | apply Pick.tail))))))) (hx : f.val x = some (.agg xs.toArray) := by exact rfl)
    (hl : xs.length = sz := by exact rfl) (hz : Nat.ble sz 1000 = true := by exact rfl) (hz0 : Nat.blt 0 sz = true := by exact rfl) (hds : i ∉ ds := by simp) (hd : o.dst = some d := by exact rfl) (hw : Wants ops f o true := by first | exact Wants.all rfl | exact Wants.at_ rfl rfl rfl rfl) (hcc : Go.Proofs.YtnndjobhcncanaaW.PrintLast.readyB .any ops l l' i = true := by kernel_rfl) (hle : sS.le s := by first | exact Store.le.refl _ | assumption) (hn : Nat.blt d n = true := by exact rfl) : GD P C n ops sS hS ds (m + 1) l k f s h :=
  GD.eff l' hi hd hcc hds hw (Eff.buildSlice (ps := [(0, x)]) (vs := [(0, .agg xs.toArray)]) (cs := xs) ho (by simp [Fr.parts, hx]) (by have := Nat.le_of_ble_eq_true hz; omega) (by rw [Nat.blt_eq] at hz0; omega)
    (fill_one (by simp [hl]) hl) (by omega)) hle hn (by rintro v s' h' ⟨A, e, rfl, hs⟩; exact ⟨r, hkeep⟩) (by rintro v s' h' ⟨A, e, rfl, hs⟩ hle; cases e; exact H A s' hle hs) (by rintro _ _ _ ⟨A, e, _⟩; cases e)
theorem GD.appS (i : Nat) (l' : Array Bool) {t tx e : TypeId} {e' : TypeId} {z : Value} {sz bytes mm nn c : Nat} {x y : Operand} {A : Option Addr} {u : Value} {xs ys : List Value} {h2 : List Ent} {d : Tmp} [ut : UT P t (.slice e)] [ux : UT P tx (.slice e')] [it : IT P e z sz bytes] (hi : ops[i]? = some o) (ho : o.op = .call { callee := .builtin .append, args := #[x, y], argTypes := #[t, tx] }) (hx : f.val x = some (.slice A nn c)) (src : Src P s h u sz mm ys) (hb : (nn + mm) * bytes ≤ 140737488355328) (h63 : nn + mm ≤ 9223372036854775807)
    (H : ∀ A' c', GD P C n ops sS hS ds m l' k ((d, .slice A' (nn + mm) c') :: f) s (.buf (.slice A' (nn + mm) c') e sz (nn + mm) (xs ++ ys) :: h2)) (hkeep : ∀ A' c', ∃ r, Split hS (.buf (.slice A' (nn + mm) c') e sz (nn + mm) (xs ++ ys) :: h2) r)
    (hy : f.val y = some u := by exact rfl) (hm : Pick (.buf (.slice A nn c) e sz nn xs) h h2 := by (repeat (first | exact Pick.head | apply Pick.tail))) (hds : i ∉ ds := by simp) (hd : o.dst = some d := by exact rfl) (hw : Wants ops f o true := by first | exact Wants.all rfl | exact Wants.at_ rfl rfl rfl rfl) (hcc : Go.Proofs.YtnndjobhcncanaaW.PrintLast.readyB .any ops l l' i = true := by kernel_rfl) (hle : sS.le s := by first | exact Store.le.refl _ | assumption) (hn : Nat.blt d n = true := by exact rfl) : GD P C n ops sS hS ds (m + 1) l k f s h :=
  GD.eff l' hi hd hcc hds hw (Eff.appS ho hx hy src hm hb h63) hle hn (by rintro v s' h' ⟨A', c', e, rfl, rfl⟩; exact hkeep A' c') (by rintro v s' h' ⟨A', c', e, rfl, rfl⟩ _; cases e; exact H A' c') (by rintro _ _ _ ⟨_, _, e, _⟩; cases e)
/-- A struct that lies in memory, as a result. -/
theorem run_loadVarN {ty : TypeId} {g : Nat} {c : List Value} {e : TypeId} {fr : Nat × Nat} {d : TypeDesc} {z : Value} {sz b : Nat} [ut : UT P ty d] [it : IT P ty z sz b] {w : World} (hd : isAggD d = true) (hl : c.length = sz) (hw : w.heap[g]? = some (.cells c.toArray e fr)) : (loadVar ty ⟨g, 0, none⟩).run P w = .ok (.agg c.toArray) w := by
  have h1 : (loadCells ⟨g, 0, none⟩ sz).run P w = .ok c.toArray w := run_loadCells hl (fun j u hj => by rw [add_blk, cell_blk hw]; simpa using hj)
  simp only [loadVar, Sem.run_bind, run_isAgg (P := P) (w := w) (t := ty), hd, Result.andThen_ok, if_true, run_size (P := P) (w := w) (t := ty), h1, Sem.run_pure]
theorem resNc {fn : Func} {t : Tmp} {ty : TypeId} {g : Nat} {c : List Value} {e : TypeId} {fr : Nat × Nat} {d : TypeDesc} {z : Value} {sz b : Nat} [ut : UT P ty d] [it : IT P ty z sz b] (hr : fn.results = #[.cell t ty]) (hv : f.get t = some (.pointer (some ⟨g, 0, none⟩))) (hd : isAggD d = true) (hl : c.length = sz) (hm : Ent.blk g (.cells c.toArray e fr) ∈ h) : resOf P f h fn (.agg c.toArray) := fun a w s hf m => by
  have h1 := hf t _ hv
  have h2 := run_loadVarN (P := P) (ty := ty) (w := w) hd hl (m.blk hm)
  simp [results, hr, Array.getD_eq_getD_getElem?, h1, asAddr, h2]
theorem resNc1 {fn : Func} {t u : Tmp} {v : Value} {ty : TypeId} {g : Nat} {c : List Value} {e : TypeId} {fr : Nat × Nat} {d : TypeDesc} {z : Value} {sz b : Nat} [ut : UT P ty d] [it : IT P ty z sz b] (hr : fn.results = #[.cell t ty, .tmp u]) (hv : f.get t = some (.pointer (some ⟨g, 0, none⟩))) (hu : f.get u = some v) (hd : isAggD d = true) (hl : c.length = sz) (hm : Ent.blk g (.cells c.toArray e fr) ∈ h) : resOf P f h fn (.tuple #[.agg c.toArray, v]) := fun a w s hf m => by
  have h1 := hf t _ hv
  have h2 := run_loadVarN (P := P) (ty := ty) (w := w) hd hl (m.blk hm)
  have h3 := hf u _ hu
  simp [results, hr, Array.getD_eq_getD_getElem?, h1, h3, asAddr, h2]
end
end Go.Proofs.Ytnndjobhcncanaa
