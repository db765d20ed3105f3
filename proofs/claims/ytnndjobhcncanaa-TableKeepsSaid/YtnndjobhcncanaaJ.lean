/- The calculus, seventh part: panics, deferred calls, recovery. No statement of the seat is proved here. -/
import Derived.Test.YtnndjobhcncanaaK
namespace Go.Proofs.Ytnndjobhcncanaa
open Go.RowKit
section
variable {P : Program} {C : Ctx} {n : Nat} {k : List Item} {f : Fr} {s : Store} {h : List Ent} {ops : Array Oper} {os : List Oper} {o : Oper} {sS : Store} {hS : List Ent} {ds : List Nat} {m : Nat} {l : Array Bool} {v : Value}
theorem GL.panic {x : Operand} {t : TypeId} {v : Value} (ho : o.op = .panic x) (hx : f.val x = some (.iface t v)) (H : GR P C n (.panicking [{ v := .iface t v, recovered := false }]) f s h) (hd : o.dst = none := by exact rfl) (hw : Wants ops f o true := by first | exact Wants.all rfl | exact Wants.at_ rfl rfl rfl rfl) : GL P C n ops (o :: os) k f s h :=
  GL.eff0 hd hw (Eff.panic ho hx) (by rintro _ _ _ ⟨e, _⟩; cases e) (by rintro ch s' h' ⟨e, rfl, rfl⟩ _; cases e; exact H)
/-- A call that may panic. -/
theorem GL.callP {g : FuncId} {xs : List Operand} {ts : Array TypeId} {vs : List Value} {h1 r : List Ent} {post : Ending → Store → List Ent → Prop} {d : Tmp} [en : Enters P g] (ho : o.op = .call { callee := .value (.func g), args := xs.toArray, argTypes := ts }) (hx : f.vals xs = some vs)
    (hc : Fn P g vs.toArray s h1 post) (hs : Split h1 h r) (H : ∀ v s' h1', post (.returned v) s' h1' → s.le s' → GL P C n ops os k ((d, v) :: f) s' (h1' ++ r))
    (HP : ∀ ch s' h1', post (.panicked ch) s' h1' → s.le s' → GR P C n (.panicking ch) f s' (h1' ++ r)) (hno : ∀ s' h', ¬ post .outgrown s' h')
    (hd : o.dst = some d := by exact rfl) (hw : Wants ops f o true := by first | exact Wants.all rfl | exact Wants.at_ rfl rfl rfl rfl) (hn : Nat.blt d n = true := by exact rfl) : GL P C n ops (o :: os) k f s h :=
  GL.eff hd hw (Eff.call ho hx hc hs hno) hn (by rintro v s' h' ⟨h1', hp, rfl⟩ hle; exact H v s' h1' hp hle) (by rintro ch s' h' ⟨h1', hp, rfl⟩ hle; exact HP ch s' h1' hp hle)
/-- A call of a function value that may panic. -/
theorem GL.callVP {t : Tmp} {g : FuncId} {xs : List Operand} {ts : Array TypeId} {vs fs cs : List Value} {h1 r : List Ent} {post : Ending → Store → List Ent → Prop} {d : Tmp} [en : Enters P g] (ho : o.op = .call { callee := .value (.tmp t), args := xs.toArray, argTypes := ts }) (hf : f.get t = some (.func (.func g) fs.toArray cs.toArray)) (hx : f.vals xs = some vs)
    (hc : Fn P g (fs ++ vs ++ cs).toArray s h1 post) (hs : Split h1 h r) (H : ∀ v s' h1', post (.returned v) s' h1' → s.le s' → GL P C n ops os k ((d, v) :: f) s' (h1' ++ r))
    (HP : ∀ ch s' h1', post (.panicked ch) s' h1' → s.le s' → GR P C n (.panicking ch) f s' (h1' ++ r)) (hno : ∀ s' h', ¬ post .outgrown s' h')
    (hd : o.dst = some d := by exact rfl) (hw : Wants ops f o true := by first | exact Wants.all rfl | exact Wants.at_ rfl rfl rfl rfl) (hn : Nat.blt d n = true := by exact rfl) : GL P C n ops (o :: os) k f s h :=
  GL.eff hd hw (Eff.callV ho hf hx hc hs hno) hn (by rintro v s' h' ⟨h1', hp, rfl⟩ hle; exact H v s' h1' hp hle) (by rintro ch s' h' ⟨h1', hp, rfl⟩ hle; exact HP ch s' h1' hp hle)
/-- 'defer': the function value is made, and put ahead of what is deferred. -/
theorem Go.of_wpN {c : Code} {a : Act} {w : World} (h : c.wp P (fun e a' w' => e = .normal ∧ Go P C k a' w') a w) : Go P C (.code c :: k) a w := by
  intro b cs hb hk
  obtain ⟨e, a', w', ⟨rfl, hq⟩, arr⟩ := h b k cs
  obtain ⟨e, w2, fr, r, c, x⟩ := hq b cs hb hk
  exact ⟨e, w2, fr, r, Comes.of_steps arr c, x⟩
theorem G.defer {id : Nat} {o1 o2 : Oper} {d : Tmp} {fn : _root_.Go.Fn} {fs cs : List Value} {ts : Array TypeId} (h1 : PEv P f s h o1 (.func fn fs.toArray cs.toArray)) (hd : o1.dst = some d) (hg : o1.guard = none) (h2 : o2.op = .defer { callee := .value (.tmp d), args := #[], argTypes := ts }) (hg2 : o2.guard = none) (hd2 : o2.dst = none) (hn : Nat.blt d n = true)
    (H : G P { C with D := ⟨.fn fn cs.toArray, fs.toArray⟩ :: C.D } n k ((d, .func fn fs.toArray cs.toArray) :: f) s h) : G P C n (.code (.region id #[o1, o2] false) :: k) f s h := by
  intro a w e1 e2 e3 e4
  refine Go.of_wpN (wp_region ?_)
  have hr : List.range (#[o1, o2] : Array Oper).size = [0, 1] := rfl
  rw [hr]
  have f2 : Fr.ok ((d, .func fn fs.toArray cs.toArray) :: f) (a.put (some d) (.func fn fs.toArray cs.toArray)) := Fr.ok_put e2 (by rw [e1]; simpa [Nat.blt_eq] using hn)
  refine wpOps_cons (o := o1) rfl (by simp [Region.wanted, hg]) ?_
  unfold Oper.wp
  rw [h1 a w e2 e4.mem, Oper.upon_value, hd]
  refine wpOps_cons (o := o2) rfl (by simp [Region.wanted, hg2]) ?_
  unfold Oper.wp
  have hev : (a.put (some d) (.func fn fs.toArray cs.toArray)).eval (.tmp d) = .func fn fs.toArray cs.toArray := Fr.ok.eval f2 (by simp [Fr.val, Fr.get])
  have hex : (execOp (a.put (some d) (.func fn fs.toArray cs.toArray)).eval o2).run P w = .ok (.defer ⟨.fn fn cs.toArray, fs.toArray⟩) w := by
    simp only [execOp, h2, resolve, hev, Deferred.ofValue]
    simp
  rw [hex, Oper.upon_defer, hd2]
  refine ⟨rfl, ?_⟩
  exact H _ w ((act_size (a := a) (d := some d) (v := .func fn fs.toArray cs.toArray)).trans e1) (fun i v hv => f2 i v hv) (congrArg (_ :: ·) ((act_defers (a := a) (d := some d)).trans e3)) e4
end

/-! ### A deferred function's own region, told by its world -/
section
variable {P : Program} {Q : Exit → Act → World → Prop} {n : Nat} {f : Fr} {s : Store} {h : List Ent} {w0 : World} {s0 : Store} {h0 : List Ent} {ops : Array Oper} {os : List Oper} {o : Oper}
def GX (P : Program) (Q : Exit → Act → World → Prop) (w0 : World) (s0 : Store) (h0 : List Ent) (n : Nat) (ops : Array Oper) (os : List Oper) (f : Fr) (s : Store) (h : List Ent) : Prop :=
  ∀ is : List Nat, is.map (ops[·]?) = os.map some → ∀ a w, a.tmps.size = n → f.ok a → a.defers = [] → Cur w0 s0 h0 s h w → wpOps P ops Q is a w
theorem GX.nil (H : ∀ a w, f.ok a → a.defers = [] → Cur w0 s0 h0 s h w → Q .normal a w) : GX P Q w0 s0 h0 n ops [] f s h := by
  intro is hi a w h1 h2 h3 h4
  have : is = [] := by simpa using hi
  subst this
  exact H a w h2 h3 h4
theorem GX.p {d : Tmp} {v : Value} (H : GX P Q w0 s0 h0 n ops os ((d, v) :: f) s h) (hd : o.dst = some d := by exact rfl) (hw : Wants ops f o true := by exact Wants.all rfl) (he : PEv P f s h o v := by first | (first | exact PEv.move rfl rfl | exact PEv.assign rfl rfl | exact PEv.pickT rfl rfl rfl | exact PEv.pickF rfl rfl rfl | exact PEv.eqT rfl rfl rfl (by omega) | exact PEv.eqF rfl rfl rfl (by omega) | exact PEv.eqI rfl rfl rfl) | (first | exact PEv.neT rfl rfl rfl (by omega) | exact PEv.neF rfl rfl rfl (by omega) | exact PEv.neI rfl rfl rfl | exact PEv.ltT rfl rfl rfl (by omega) | exact PEv.ltF rfl rfl rfl (by omega) | exact PEv.ltI rfl rfl rfl | exact PEv.leT rfl rfl rfl (by omega)) | (first | exact PEv.leF rfl rfl rfl (by omega) | exact PEv.leI rfl rfl rfl | exact PEv.gtT rfl rfl rfl (by omega) | exact PEv.gtF rfl rfl rfl (by omega) | exact PEv.gtI rfl rfl rfl | exact PEv.geT rfl rfl rfl (by omega) | exact PEv.geF rfl rfl rfl (by omega)) | (first | exact PEv.geI rfl rfl rfl | exact PEv.addI rfl rfl rfl (by omega) (by omega) | exact PEv.subI rfl rfl rfl (by omega) (by omega) | exact PEv.nilCheck rfl rfl | exact PEv.shr7 rfl rfl | exact PEv.fieldAddr0 rfl rfl | exact PEv.fieldAddrR rfl rfl) | (first | (apply PEv.loadB rfl rfl rfl; (repeat (first | exact List.Mem.head _ | apply List.Mem.tail)); exact rfl) | (apply PEv.loadF rfl rfl rfl; assumption; exact rfl) | (apply PEv.loadW rfl rfl rfl; (repeat (first | exact List.Mem.head _ | apply List.Mem.tail)); exact rfl) | (apply PEv.loadWF rfl rfl rfl; assumption; exact rfl) | (apply PEv.indexAddr rfl rfl rfl; assumption; decide; omega; omega) | (apply PEv.loadS rfl rfl rfl; assumption; assumption) | exact PEv.lenS rfl rfl) | (first | exact PEv.lenStr rfl rfl | exact PEv.notD rfl rfl | exact PEv.not rfl rfl | exact PEv.extract rfl rfl rfl | exact PEv.field1 rfl rfl rfl rfl | (refine PEv.fieldN rfl rfl rfl ?_; ((try simp only [List.drop_zero, List.drop_succ_cons, List.take_succ_cons, List.take_zero, List.take_nil]); exact rfl)) | exact PEv.eqStr rfl rfl rfl) | (first | exact PEv.neStr rfl rfl rfl | exact PEv.eqNil rfl rfl rfl | exact PEv.neNil rfl rfl rfl | exact PEv.makeFunc rfl rfl rfl | exact PEv.build rfl rfl rfl | exact PEv.eqBT rfl rfl rfl rfl | exact PEv.neBF rfl rfl rfl rfl) | (first | exact PEv.eqB rfl rfl rfl | exact PEv.neB rfl rfl rfl | exact PEv.mulI rfl rfl rfl (by omega) (by omega) | (apply PEv.loadE rfl rfl rfl; assumption; assumption; exact rfl) | exact PEv.convS rfl rfl | exact PEv.convU8 rfl rfl | exact PEv.or128 rfl rfl (by omega) (by omega)) | (first | exact PEv.and127 rfl rfl (by omega) (by omega) | exact PEv.conv64 rfl rfl (by omega) (by omega) | exact PEv.conv8 rfl rfl (by omega) (by omega) | exact PEv.max2 rfl rfl rfl | exact PEv.min2 rfl rfl rfl | (refine PEv.cut3N rfl rfl rfl rfl ?_ ?_ <;> omega) | (refine PEv.cut3 rfl rfl rfl rfl ?_ ?_ ?_ <;> omega))) (hn : Nat.blt d n = true := by exact rfl) : GX P Q w0 s0 h0 n ops (o :: os) f s h := by
  intro is hi a w h1 h2 h3 h4
  obtain ⟨i, is', rfl, ho, hi'⟩ := is_cons hi
  refine wpOps_cons ho (hw a h2) ?_
  unfold Oper.wp
  rw [he a w h2 h4.mem, Oper.upon_value, hd]
  exact H is' hi' _ w (act_size.trans h1) (Fr.ok_put h2 (by rw [h1]; simpa [Nat.blt_eq] using hn)) (act_defers.trans h3) h4
theorem GX.store {t : TypeId} {x y : Operand} {g i : Nat} {c c' : List Value} {e : TypeId} {z v : Value} {b : Nat} {h2 : List Ent} [it : IT P t z 1 b] (H : GX P Q w0 s0 h0 n ops os f s (.blk g (.cells c'.toArray e (0, 0)) :: h2)) (ho : o.op = .store t x y := by exact rfl) (hx : f.val x = some (.pointer (some ⟨g, i, none⟩)) := by exact rfl) (hy : f.val y = some v := by exact rfl)
    (hv : v.oneCell' = true := by exact rfl) (hm : Pick (.blk g (.cells c.toArray e (0, 0))) h h2 := by (repeat (first | exact Pick.head | apply Pick.tail))) (hi : Nat.blt i c.length = true := by exact rfl) (hc : c.set i v = c' := by ((try simp only [List.set_cons_zero, List.set_cons_succ]); exact rfl)) (hd : o.dst = none := by exact rfl) (hw : Wants ops f o true := by exact Wants.all rfl) : GX P Q w0 s0 h0 n ops (o :: os) f s h := by
  intro is hii a w h1 h2' h3 h4
  obtain ⟨j, is', rfl, ho', hi'⟩ := is_cons hii
  refine wpOps_cons ho' (hw a h2') (Eff.store1 ho hx hy hv hm (by simpa [Nat.blt_eq] using hi) hc a w _ _ h2' h4.mem (fun v s' h' w' hx c => ?_) (fun ch s' h' w' hx _ => ?_))
  · obtain ⟨_, rfl, rfl⟩ := hx
    rw [hd]
    exact H is' hi' _ w' h1 h2' h3 (Cur.after h4 c)
  · obtain ⟨e, _⟩ := hx
    cases e
end
end Go.Proofs.Ytnndjobhcncanaa
