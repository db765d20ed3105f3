/- The calculus, fifth part: its steps, with what they ask looked for by fixed tactics. No statement of the seat is proved here. -/
import Derived.Test.YtnndjobhcncanaaT
namespace Go.Proofs.Ytnndjobhcncanaa
open Go.RowKit
section
variable {P : Program} {C : Ctx} {n : Nat} {k : List Item} {f : Fr} {s : Store} {h : List Ent} {ops : Array Oper} {os : List Oper} {o : Oper} {sS : Store} {hS : List Ent} {ds : List Nat} {m : Nat} {l : Array Bool}
theorem GL.p {d : Tmp} {v : Value} (H : GL P C n ops os k ((d, v) :: f) s h) (hd : o.dst = some d := by exact rfl) (hw : Wants ops f o true := by first | exact Wants.all rfl | exact Wants.at_ rfl rfl rfl rfl)
    (he : PEv P f s h o v := by first | (first | exact PEv.move rfl rfl | exact PEv.assign rfl rfl | exact PEv.pickT rfl rfl rfl | exact PEv.pickF rfl rfl rfl | exact PEv.eqT rfl rfl rfl (by omega) | exact PEv.eqF rfl rfl rfl (by omega) | exact PEv.eqI rfl rfl rfl) | (first | exact PEv.neT rfl rfl rfl (by omega) | exact PEv.neF rfl rfl rfl (by omega) | exact PEv.neI rfl rfl rfl | exact PEv.ltT rfl rfl rfl (by omega) | exact PEv.ltF rfl rfl rfl (by omega) | exact PEv.ltI rfl rfl rfl | exact PEv.leT rfl rfl rfl (by omega)) | (first | exact PEv.leF rfl rfl rfl (by omega) | exact PEv.leI rfl rfl rfl | exact PEv.gtT rfl rfl rfl (by omega) | exact PEv.gtF rfl rfl rfl (by omega) | exact PEv.gtI rfl rfl rfl | exact PEv.geT rfl rfl rfl (by omega) | exact PEv.geF rfl rfl rfl (by omega)) | (first | exact PEv.geI rfl rfl rfl | exact PEv.addI rfl rfl rfl (by omega) (by omega) | exact PEv.subI rfl rfl rfl (by omega) (by omega) | exact PEv.nilCheck rfl rfl | exact PEv.shr7 rfl rfl | exact PEv.fieldAddr0 rfl rfl | exact PEv.fieldAddrR rfl rfl) | (first | (apply PEv.loadB rfl rfl rfl; (repeat (first | exact List.Mem.head _ | apply List.Mem.tail)); exact rfl) | (apply PEv.loadF rfl rfl rfl; assumption; exact rfl) | (apply PEv.loadW rfl rfl rfl; (repeat (first | exact List.Mem.head _ | apply List.Mem.tail)); exact rfl) | (apply PEv.loadWF rfl rfl rfl; assumption; exact rfl) | (apply PEv.indexAddr rfl rfl rfl; assumption; decide; omega; omega) | (apply PEv.loadS rfl rfl rfl; assumption; assumption) | exact PEv.lenS rfl rfl) | (first | exact PEv.lenStr rfl rfl | exact PEv.notD rfl rfl | exact PEv.not rfl rfl | exact PEv.extract rfl rfl rfl | exact PEv.field1 rfl rfl rfl rfl | (refine PEv.fieldN rfl rfl rfl ?_; ((try simp only [List.drop_zero, List.drop_succ_cons, List.take_succ_cons, List.take_zero, List.take_nil]); exact rfl)) | exact PEv.eqStr rfl rfl rfl) | (first | exact PEv.neStr rfl rfl rfl | exact PEv.eqNil rfl rfl rfl | exact PEv.neNil rfl rfl rfl | exact PEv.makeFunc rfl rfl rfl | exact PEv.build rfl rfl rfl | exact PEv.eqBT rfl rfl rfl rfl | exact PEv.neBF rfl rfl rfl rfl) | (first | exact PEv.eqB rfl rfl rfl | exact PEv.neB rfl rfl rfl | exact PEv.mulI rfl rfl rfl (by omega) (by omega) | (apply PEv.loadE rfl rfl rfl; assumption; assumption; exact rfl) | exact PEv.convS rfl rfl | exact PEv.convU8 rfl rfl | exact PEv.or128 rfl rfl (by omega) (by omega)) | (first | exact PEv.and127 rfl rfl (by omega) (by omega) | exact PEv.conv64 rfl rfl (by omega) (by omega) | exact PEv.conv8 rfl rfl (by omega) (by omega) | exact PEv.max2 rfl rfl rfl | exact PEv.min2 rfl rfl rfl | (refine PEv.cut3N rfl rfl rfl rfl ?_ ?_ <;> omega) | (refine PEv.cut3 rfl rfl rfl rfl ?_ ?_ ?_ <;> omega))) (hn : Nat.blt d n = true := by exact rfl) : GL P C n ops (o :: os) k f s h := GL.pure hd hw he hn H
theorem GL.no {d : Tmp} (H : GL P C n ops os k ((d, undef) :: f) s h) (hd : o.dst = some d := by exact rfl) (hw : Wants ops f o false := by first | exact Wants.at_ rfl rfl rfl rfl | exact Wants.un rfl rfl rfl) (hn : Nat.blt d n = true := by exact rfl) : GL P C n ops (o :: os) k f s h := GL.off hd hw hn H
theorem GL.boxA {t : TypeId} {x : Operand} {c : List Value} {d : Tmp} (H : ∀ g, GL P C n ops os k ((d, .pointer (some ⟨g, 0, none⟩)) :: f) s (.blk g (.cells c.toArray t (0, 0)) :: h)) (ho : o.op = .box t x := by exact rfl) (hx : f.val x = some (.agg c.toArray) := by exact rfl) (hd : o.dst = some d := by exact rfl)
    (hw : Wants ops f o true := by first | exact Wants.all rfl | exact Wants.at_ rfl rfl rfl rfl) (hn : Nat.blt d n = true := by exact rfl) : GL P C n ops (o :: os) k f s h :=
  GL.eff hd hw (Eff.boxA ho hx) hn (by rintro v s' h' ⟨g, e, rfl, rfl⟩ _; cases e; exact H g) (by rintro _ _ _ ⟨g, e, _⟩; cases e)
theorem GL.box1 {t : TypeId} {x : Operand} {v : Value} {d : Tmp} (H : ∀ g, GL P C n ops os k ((d, .pointer (some ⟨g, 0, none⟩)) :: f) s (.blk g (.cells [v].toArray t (0, 0)) :: h)) (ho : o.op = .box t x := by exact rfl) (hx : f.val x = some v := by exact rfl) (hv : v.oneCell' = true := by exact rfl) (hd : o.dst = some d := by exact rfl)
    (hw : Wants ops f o true := by first | exact Wants.all rfl | exact Wants.at_ rfl rfl rfl rfl) (hn : Nat.blt d n = true := by exact rfl) : GL P C n ops (o :: os) k f s h :=
  GL.eff hd hw (Eff.box1 ho hx hv) hn (by rintro v s' h' ⟨g, e, rfl, rfl⟩ _; cases e; exact H g) (by rintro _ _ _ ⟨g, e, _⟩; cases e)
theorem GL.allocA {t : TypeId} {c : List Value} {sz b : Nat} {d : Tmp} [it : IT P t (.agg c.toArray) sz b] (H : ∀ g, GL P C n ops os k ((d, .pointer (some ⟨g, 0, none⟩)) :: f) s (.blk g (.cells c.toArray t (0, 0)) :: h)) (ho : o.op = .alloc t := by exact rfl) (hd : o.dst = some d := by exact rfl)
    (hw : Wants ops f o true := by first | exact Wants.all rfl | exact Wants.at_ rfl rfl rfl rfl) (hn : Nat.blt d n = true := by exact rfl) : GL P C n ops (o :: os) k f s h :=
  GL.eff hd hw (Eff.allocA ho) hn (by rintro v s' h' ⟨g, e, rfl, rfl⟩ _; cases e; exact H g) (by rintro _ _ _ ⟨g, e, _⟩; cases e)
theorem GL.alloc1 {t : TypeId} {z : Value} {sz b : Nat} {d : Tmp} [it : IT P t z sz b] (ho : o.op = .alloc t) (H : ∀ g, GL P C n ops os k ((d, .pointer (some ⟨g, 0, none⟩)) :: f) s (.blk g (.cells [z].toArray t (0, 0)) :: h)) (hv : z.oneCell' = true := by exact rfl) (hd : o.dst = some d := by exact rfl)
    (hw : Wants ops f o true := by first | exact Wants.all rfl | exact Wants.at_ rfl rfl rfl rfl) (hn : Nat.blt d n = true := by exact rfl) : GL P C n ops (o :: os) k f s h :=
  GL.eff hd hw (Eff.alloc1 ho hv) hn (by rintro v s' h' ⟨g, e, rfl, rfl⟩ _; cases e; exact H g) (by rintro _ _ _ ⟨g, e, _⟩; cases e)
theorem GL.store {t : TypeId} {x y : Operand} {g i : Nat} {c c' : List Value} {e : TypeId} {z v : Value} {b : Nat} {h2 : List Ent} [it : IT P t z 1 b] (H : GL P C n ops os k f s (.blk g (.cells c'.toArray e (0, 0)) :: h2)) (ho : o.op = .store t x y := by exact rfl) (hx : f.val x = some (.pointer (some ⟨g, i, none⟩)) := by exact rfl) (hy : f.val y = some v := by exact rfl)
    (hv : v.oneCell' = true := by exact rfl) (hm : Pick (.blk g (.cells c.toArray e (0, 0))) h h2 := by (repeat (first | exact Pick.head | apply Pick.tail))) (hi : Nat.blt i c.length = true := by exact rfl) (hc : c.set i v = c' := by ((try simp only [List.set_cons_zero, List.set_cons_succ]); exact rfl)) (hd : o.dst = none := by exact rfl) (hw : Wants ops f o true := by first | exact Wants.all rfl | exact Wants.at_ rfl rfl rfl rfl) : GL P C n ops (o :: os) k f s h :=
  GL.eff0 hd hw (Eff.store1 ho hx hy hv hm (by simpa [Nat.blt_eq] using hi) hc) (by rintro v s' h' ⟨_, rfl, rfl⟩ _; exact H) (by rintro _ _ _ ⟨e, _⟩; cases e)
/-- A slice of one value, of one cell. -/
theorem GL.lit1 {t e : TypeId} {x : Operand} {v z : Value} {b : Nat} {d : Tmp} [ut : UT P t (.slice e)] [it : IT P e z 1 b] (ho : o.op = .buildSlice t 1 #[(0, x)]) (H : ∀ A s', s.le s' → Sl s' A 1 1 1 [v] → GL P C n ops os k ((d, .slice A 1 1) :: f) s' h) (hx : f.val x = some v := by exact rfl)
    (hv : v.oneCell' = true := by exact rfl) (hd : o.dst = some d := by exact rfl) (hw : Wants ops f o true := by first | exact Wants.all rfl | exact Wants.at_ rfl rfl rfl rfl) (hn : Nat.blt d n = true := by exact rfl) : GL P C n ops (o :: os) k f s h :=
  GL.eff hd hw (Eff.buildSlice (ps := [(0, x)]) (vs := [(0, v)]) (cs := [v]) ho (by simp [Fr.parts, hx]) (by decide) (by decide)
    (by
      have h1 : v.cells = #[v] := by cases v <;> simp_all [Value.cells, Value.oneCell']
      obtain ⟨u, h2⟩ : ∃ u, z.cells = #[u] := by
        have := it.cs
        exact ⟨z.cells[0]'(by omega), by
          apply Array.ext
          · simp [this]
          · intro i h1 h2
            have : i = 0 := by simp at h2; omega
            subst this
            rfl⟩
      have h3 : (Array.range 1).map ((z.cells)[· % z.cells.size]!) = #[u] := by rw [h2]; apply Array.ext <;> simp
      simp only [Nat.mul_one]
      rw [h3]
      simp [Instr.fill, h1]) rfl) hn (by rintro v s' h' ⟨A, e, rfl, hs⟩ hle; cases e; exact H A s' hle hs) (by rintro _ _ _ ⟨A, e, _⟩; cases e)
theorem Sl.none_ {s : Store} {A : Option Addr} {n c sz : Nat} {cs : List Value} (h : Sl s A n c sz cs) (hz : 0 < sz) : A = none → n = 0 := by
  rintro rfl
  rcases Nat.eq_zero_or_pos n with h0 | h0
  · exact h0
  · have hl : 0 < cs.length := by rw [h.len]; exact Nat.mul_pos h0 hz
    have := (h.at_ 0 cs[0] (by simp)).1
    simp at this
/-- What is owned is given over to what never changes. -/
theorem G.freeze {g : Nat} {ob : Obj} {h2 : List Ent} {todo : List Item} (hm : Pick (.blk g ob) h h2) (H : ∀ s', s.le s' → s' g = some ob → G P C n todo f s' h2) : G P C n todo f s h := fun a w h1 h2 h3 h4 => by
  have c := (h4.perm hm.perm).freeze
  exact H _ c.2 (by simp) a w h1 h2 h3 c.1
theorem sl_of_buf {s' : Store} {A : Option Addr} {nn c sz : Nat} {e : TypeId} {xs : List Value} (hh : ((Value.slice A nn c = .slice none 0 0 ∧ nn = 0 ∧ xs = []) ∨ ∃ g cap cur, Value.slice A nn c = .slice (some ⟨g, 0, none⟩) nn cap ∧ s' g = some (.cells cur e (0, 0)) ∧ nn ≤ cap ∧ cap ≤ maxLen ∧ cur.toList.take (nn * sz) = xs ∧ xs.length = nn * sz)) : Sl s' A nn c sz xs := by
  rcases hh with ⟨h1, rfl, rfl⟩ | ⟨g, cap, cur, h1, h2, h3, h4, h5, h6⟩
  · simp only [Value.slice.injEq] at h1
    obtain ⟨rfl, -, rfl⟩ := h1
    exact Sl.nil s' sz
  · simp only [Value.slice.injEq] at h1
    obtain ⟨rfl, -, rfl⟩ := h1
    exact Sl.of_blk h2 h6 h3 (by simpa [maxLen] using h4) (by rw [h6]; exact h5)
theorem G.freezeBuf {A : Option Addr} {nn c sz : Nat} {e : TypeId} {xs : List Value} {h2 : List Ent} {todo : List Item} (hm : Pick (.buf (.slice A nn c) e sz nn xs) h h2) (H : ∀ s', s.le s' → Sl s' A nn c sz xs → G P C n todo f s' h2) : G P C n todo f s h := fun a w h1 h2 h3 h4 => by
  obtain ⟨s', c1, c2, c3⟩ := (h4.perm hm.perm).freezeBuf
  exact H s' c2 (sl_of_buf c3) a w h1 h2 h3 c1
theorem GL.freezeBuf {A : Option Addr} {nn c sz : Nat} {e : TypeId} {xs : List Value} {h2 : List Ent} (hm : Pick (.buf (.slice A nn c) e sz nn xs) h h2) (H : ∀ s', s.le s' → Sl s' A nn c sz xs → GL P C n ops os k f s' h2) : GL P C n ops os k f s h := fun is hi a w h1 h2 h3 h4 => by
  obtain ⟨s', c1, c2, c3⟩ := (h4.perm hm.perm).freezeBuf
  exact H s' c2 (sl_of_buf c3) is hi a w h1 h2 h3 c1
/-- Results out of slots. -/
theorem res1 {fn : Func} {t : Tmp} {v : Value} (hr : fn.results = #[.tmp t]) (hv : f.get t = some v) : resOf P f h fn v := fun a w s hf _ => by
  have := hf t v hv
  simp [results, hr, Array.getD_eq_getD_getElem?, this]
theorem res0 {fn : Func} (hr : fn.results = #[]) : resOf P f h fn (.tuple #[]) := fun a w s hf _ => by simp [results, hr]
theorem res2 {fn : Func} {t u : Tmp} {v v' : Value} (hr : fn.results = #[.tmp t, .tmp u]) (hv : f.get t = some v) (hv' : f.get u = some v') : resOf P f h fn (.tuple #[v, v']) := fun a w s hf _ => by
  have h1 := hf t v hv
  have h2 := hf u v' hv'
  simp [results, hr, Array.getD_eq_getD_getElem?, h1, h2]
theorem res3 {fn : Func} {t u x : Tmp} {v v' v'' : Value} (hr : fn.results = #[.tmp t, .tmp u, .tmp x]) (hv : f.get t = some v) (hv' : f.get u = some v') (hv'' : f.get x = some v'') : resOf P f h fn (.tuple #[v, v', v'']) := fun a w s hf _ => by
  have h1 := hf t v hv
  have h2 := hf u v' hv'
  have h3 := hf x v'' hv''
  simp [results, hr, Array.getD_eq_getD_getElem?, h1, h2, h3]
/-- A call, by the callee's contract. -/
theorem GL.call {g : FuncId} {xs : List Operand} {ts : Array TypeId} {vs : List Value} {h1 r : List Ent} {post : Ending → Store → List Ent → Prop} {d : Tmp} [en : Enters P g] (ho : o.op = .call { callee := .value (.func g), args := xs.toArray, argTypes := ts }) (hx : f.vals xs = some vs)
    (hc : Fn P g vs.toArray s h1 post) (hs : Split h1 h r) (H : ∀ v s' h1', post (.returned v) s' h1' → s.le s' → GL P C n ops os k ((d, v) :: f) s' (h1' ++ r))
    (hno : ∀ s' h', ¬ post .outgrown s' h' := by intro _ _ hh; simp at hh) (hnp : ∀ ch s' h', ¬ post (.panicked ch) s' h' := by intro _ _ _ hh; simp at hh)
    (hd : o.dst = some d := by exact rfl) (hw : Wants ops f o true := by first | exact Wants.all rfl | exact Wants.at_ rfl rfl rfl rfl) (hn : Nat.blt d n = true := by exact rfl) : GL P C n ops (o :: os) k f s h :=
  GL.eff hd hw (Eff.call ho hx hc hs hno) hn (by rintro v s' h' ⟨h1', hp, rfl⟩ hle; exact H v s' h1' hp hle) (by rintro ch s' h' ⟨h1', hp, _⟩ _; exact absurd hp (hnp ch s' h1'))
/-- A call of a function value. -/
theorem GL.callV {t : Tmp} {g : FuncId} {xs : List Operand} {ts : Array TypeId} {vs fs cs : List Value} {h1 r : List Ent} {post : Ending → Store → List Ent → Prop} {d : Tmp} [en : Enters P g] (ho : o.op = .call { callee := .value (.tmp t), args := xs.toArray, argTypes := ts }) (hf : f.get t = some (.func (.func g) fs.toArray cs.toArray)) (hx : f.vals xs = some vs)
    (hc : Fn P g (fs ++ vs ++ cs).toArray s h1 post) (hs : Split h1 h r) (H : ∀ v s' h1', post (.returned v) s' h1' → s.le s' → GL P C n ops os k ((d, v) :: f) s' (h1' ++ r))
    (hno : ∀ s' h', ¬ post .outgrown s' h' := by intro _ _ hh; simp at hh) (hnp : ∀ ch s' h', ¬ post (.panicked ch) s' h' := by intro _ _ _ hh; simp at hh)
    (hd : o.dst = some d := by exact rfl) (hw : Wants ops f o true := by first | exact Wants.all rfl | exact Wants.at_ rfl rfl rfl rfl) (hn : Nat.blt d n = true := by exact rfl) : GL P C n ops (o :: os) k f s h :=
  GL.eff hd hw (Eff.callV ho hf hx hc hs hno) hn (by rintro v s' h' ⟨h1', hp, rfl⟩ hle; exact H v s' h1' hp hle) (by rintro ch s' h' ⟨h1', hp, _⟩ _; exact absurd hp (hnp ch s' h1'))
theorem G.ret1 {fn : Func} {post : Ending → Store → List Ent → Prop} {t : Tmp} {v : Value} {fid : FuncId} (ok : Ctx.Is P C fid fn post) (hr : fn.results = #[.tmp t]) (hp : post (.returned v) s h) (hv : f.get t = some v := by exact rfl) : G P C n (.code .ret :: k) f s h :=
  G.retv ok (res1 hr hv) hp
theorem G.ret2 {fn : Func} {post : Ending → Store → List Ent → Prop} {t u : Tmp} {v v' : Value} {fid : FuncId} (ok : Ctx.Is P C fid fn post) (hr : fn.results = #[.tmp t, .tmp u]) (hp : post (.returned (.tuple #[v, v'])) s h) (hv : f.get t = some v := by exact rfl) (hv' : f.get u = some v' := by exact rfl) : G P C n (.code .ret :: k) f s h :=
  G.retv ok (res2 hr hv hv') hp
theorem G.ret3 {fn : Func} {post : Ending → Store → List Ent → Prop} {t u x : Tmp} {v v' v'' : Value} {fid : FuncId} (ok : Ctx.Is P C fid fn post) (hr : fn.results = #[.tmp t, .tmp u, .tmp x]) (hp : post (.returned (.tuple #[v, v', v''])) s h) (hv : f.get t = some v := by exact rfl) (hv' : f.get u = some v' := by exact rfl) (hv'' : f.get x = some v'' := by exact rfl) : G P C n (.code .ret :: k) f s h :=
  G.retv ok (res3 hr hv hv' hv'') hp
theorem G.ret0 {fn : Func} {post : Ending → Store → List Ent → Prop} {fid : FuncId} (ok : Ctx.Is P C fid fn post) (hr : fn.results = #[]) (hp : post (.returned (.tuple #[])) s h) : G P C n (.code .ret :: k) f s h :=
  G.retv ok (res0 hr) hp
theorem G.end0 {fn : Func} {post : Ending → Store → List Ent → Prop} {fid : FuncId} (ok : Ctx.Is P C fid fn post) (hr : fn.results = #[]) (hp : post (.returned (.tuple #[])) s h) : G P C n [] f s h :=
  G.endv ok (res0 hr) hp
/-- An append onto a slice without room. -/
theorem GL.growS {t tx e : TypeId} {e' : TypeId} {z : Value} {sz bytes mm nn c : Nat} {x y : Operand} {A : Option Addr} {u : Value} {olds ys : List Value} {d : Tmp} [ut : UT P t (.slice e)] [ux : UT P tx (.slice e')] [it : IT P e z sz bytes] (ho : o.op = .call { callee := .builtin .append, args := #[x, y], argTypes := #[t, tx] }) (src : Src P s h u sz mm ys) (hs : Sl s A nn c sz olds) (hg : c < nn + mm) (hb : (nn + mm) * bytes ≤ 140737488355328) (h63 : nn + mm ≤ 9223372036854775807) (hz0 : 0 < sz)
    (H : ∀ A' c', GL P C n ops os k ((d, .slice A' (nn + mm) c') :: f) s (.buf (.slice A' (nn + mm) c') e sz (nn + mm) (olds ++ ys) :: h))
    (hx : f.val x = some (.slice A nn c) := by exact rfl) (hy : f.val y = some u := by exact rfl) (hd : o.dst = some d := by exact rfl) (hw : Wants ops f o true := by first | exact Wants.all rfl | exact Wants.at_ rfl rfl rfl rfl) (hn : Nat.blt d n = true := by exact rfl) : GL P C n ops (o :: os) k f s h :=
  GL.eff hd hw (Eff.growS ho hx hy src hs (hs.none_ hz0) hg hb h63) hn (by rintro v s' h' ⟨A', c', e, rfl, rfl⟩ _; cases e; exact H A' c') (by rintro _ _ _ ⟨_, _, e, _⟩; cases e)
/-- An append onto a slice that is owned. -/
theorem GL.appS {t tx e : TypeId} {e' : TypeId} {z : Value} {sz bytes mm nn c : Nat} {x y : Operand} {A : Option Addr} {u : Value} {xs ys : List Value} {h2 : List Ent} {d : Tmp} [ut : UT P t (.slice e)] [ux : UT P tx (.slice e')] [it : IT P e z sz bytes] (ho : o.op = .call { callee := .builtin .append, args := #[x, y], argTypes := #[t, tx] }) (hx : f.val x = some (.slice A nn c)) (src : Src P s h u sz mm ys) (hb : (nn + mm) * bytes ≤ 140737488355328) (h63 : nn + mm ≤ 9223372036854775807)
    (H : ∀ A' c', GL P C n ops os k ((d, .slice A' (nn + mm) c') :: f) s (.buf (.slice A' (nn + mm) c') e sz (nn + mm) (xs ++ ys) :: h2))
    (hy : f.val y = some u := by exact rfl) (hm : Pick (.buf (.slice A nn c) e sz nn xs) h h2 := by (repeat (first | exact Pick.head | apply Pick.tail))) (hd : o.dst = some d := by exact rfl) (hw : Wants ops f o true := by first | exact Wants.all rfl | exact Wants.at_ rfl rfl rfl rfl) (hn : Nat.blt d n = true := by exact rfl) : GL P C n ops (o :: os) k f s h :=
  GL.eff hd hw (Eff.appS ho hx hy src hm hb h63) hn (by rintro v s' h' ⟨A', c', e, rfl, rfl⟩ _; cases e; exact H A' c') (by rintro _ _ _ ⟨_, _, e, _⟩; cases e)
/-- An append onto a slice without room. -/
theorem GL.growZ {t tx e : TypeId} {z : Value} {sz bytes mm nn c : Nat} {x y : Operand} {A : Option Addr} {u : Value} {olds ys : List Value} {d : Tmp} [ut : UT P t (.slice e)] [ux : UT P tx .string] [it : IT P e z sz bytes] (ho : o.op = .call { callee := .builtin .append, args := #[x, y], argTypes := #[t, tx] }) (src : Src P s h u sz mm ys) (hs : Sl s A nn c sz olds) (hg : c < nn + mm) (hb : (nn + mm) * bytes ≤ 140737488355328) (h63 : nn + mm ≤ 9223372036854775807) (hz0 : 0 < sz)
    (H : ∀ A' c', GL P C n ops os k ((d, .slice A' (nn + mm) c') :: f) s (.buf (.slice A' (nn + mm) c') e sz (nn + mm) (olds ++ ys) :: h))
    (hx : f.val x = some (.slice A nn c) := by exact rfl) (hy : f.val y = some u := by exact rfl) (hd : o.dst = some d := by exact rfl) (hw : Wants ops f o true := by first | exact Wants.all rfl | exact Wants.at_ rfl rfl rfl rfl) (hn : Nat.blt d n = true := by exact rfl) : GL P C n ops (o :: os) k f s h :=
  GL.eff hd hw (Eff.growZ ho hx hy src hs (hs.none_ hz0) hg hb h63) hn (by rintro v s' h' ⟨A', c', e, rfl, rfl⟩ _; cases e; exact H A' c') (by rintro _ _ _ ⟨_, _, e, _⟩; cases e)
/-- An append onto a slice that is owned. -/
theorem GL.appZ {t tx e : TypeId} {z : Value} {sz bytes mm nn c : Nat} {x y : Operand} {A : Option Addr} {u : Value} {xs ys : List Value} {h2 : List Ent} {d : Tmp} [ut : UT P t (.slice e)] [ux : UT P tx .string] [it : IT P e z sz bytes] (ho : o.op = .call { callee := .builtin .append, args := #[x, y], argTypes := #[t, tx] }) (hx : f.val x = some (.slice A nn c)) (src : Src P s h u sz mm ys) (hb : (nn + mm) * bytes ≤ 140737488355328) (h63 : nn + mm ≤ 9223372036854775807)
    (H : ∀ A' c', GL P C n ops os k ((d, .slice A' (nn + mm) c') :: f) s (.buf (.slice A' (nn + mm) c') e sz (nn + mm) (xs ++ ys) :: h2))
    (hy : f.val y = some u := by exact rfl) (hm : Pick (.buf (.slice A nn c) e sz nn xs) h h2 := by (repeat (first | exact Pick.head | apply Pick.tail))) (hd : o.dst = some d := by exact rfl) (hw : Wants ops f o true := by first | exact Wants.all rfl | exact Wants.at_ rfl rfl rfl rfl) (hn : Nat.blt d n = true := by exact rfl) : GL P C n ops (o :: os) k f s h :=
  GL.eff hd hw (Eff.appZ ho hx hy src hm hb h63) hn (by rintro v s' h' ⟨A', c', e, rfl, rfl⟩ _; cases e; exact H A' c') (by rintro _ _ _ ⟨_, _, e, _⟩; cases e)
/-- A region that draws, in which nothing that is owned is written. -/
theorem G.draw0 {id m : Nat} {ops : Array Oper} (l : Array Bool) (hm : P.follows .mixedOrders = true) (H : GD P C n ops s h [] m l k f s h) (hn : ops.size = m := by exact rfl) (hl : Array.replicate m false = l := by exact rfl) : G P C n (.code (.region id ops true) :: k) f s h := G.draw h [] l hm hn hl (Split.refl h) H
/-- A region that draws: a read; an operation that is not carried out; the end; a call, where nothing else may come up; a last store. -/
theorem GD.p (i : Nat) {d : Tmp} {v : Value} (l' : Array Bool) {r : List Ent} (H : GD P C n ops sS hS ds m l' k ((d, v) :: f) s h) (hi : ops[i]? = some o := by exact rfl) (hd : o.dst = some d := by exact rfl) (hw : Wants ops f o true := by first | exact Wants.all rfl | exact Wants.at_ rfl rfl rfl rfl)
    (he : PEv P f sS hS o v := by first | (first | exact PEv.move rfl rfl | exact PEv.assign rfl rfl | exact PEv.pickT rfl rfl rfl | exact PEv.pickF rfl rfl rfl | exact PEv.eqT rfl rfl rfl (by omega) | exact PEv.eqF rfl rfl rfl (by omega) | exact PEv.eqI rfl rfl rfl) | (first | exact PEv.neT rfl rfl rfl (by omega) | exact PEv.neF rfl rfl rfl (by omega) | exact PEv.neI rfl rfl rfl | exact PEv.ltT rfl rfl rfl (by omega) | exact PEv.ltF rfl rfl rfl (by omega) | exact PEv.ltI rfl rfl rfl | exact PEv.leT rfl rfl rfl (by omega)) | (first | exact PEv.leF rfl rfl rfl (by omega) | exact PEv.leI rfl rfl rfl | exact PEv.gtT rfl rfl rfl (by omega) | exact PEv.gtF rfl rfl rfl (by omega) | exact PEv.gtI rfl rfl rfl | exact PEv.geT rfl rfl rfl (by omega) | exact PEv.geF rfl rfl rfl (by omega)) | (first | exact PEv.geI rfl rfl rfl | exact PEv.addI rfl rfl rfl (by omega) (by omega) | exact PEv.subI rfl rfl rfl (by omega) (by omega) | exact PEv.nilCheck rfl rfl | exact PEv.shr7 rfl rfl | exact PEv.fieldAddr0 rfl rfl | exact PEv.fieldAddrR rfl rfl) | (first | (apply PEv.loadB rfl rfl rfl; (repeat (first | exact List.Mem.head _ | apply List.Mem.tail)); exact rfl) | (apply PEv.loadF rfl rfl rfl; assumption; exact rfl) | (apply PEv.loadW rfl rfl rfl; (repeat (first | exact List.Mem.head _ | apply List.Mem.tail)); exact rfl) | (apply PEv.loadWF rfl rfl rfl; assumption; exact rfl) | (apply PEv.indexAddr rfl rfl rfl; assumption; decide; omega; omega) | (apply PEv.loadS rfl rfl rfl; assumption; assumption) | exact PEv.lenS rfl rfl) | (first | exact PEv.lenStr rfl rfl | exact PEv.notD rfl rfl | exact PEv.not rfl rfl | exact PEv.extract rfl rfl rfl | exact PEv.field1 rfl rfl rfl rfl | (refine PEv.fieldN rfl rfl rfl ?_; ((try simp only [List.drop_zero, List.drop_succ_cons, List.take_succ_cons, List.take_zero, List.take_nil]); exact rfl)) | exact PEv.eqStr rfl rfl rfl) | (first | exact PEv.neStr rfl rfl rfl | exact PEv.eqNil rfl rfl rfl | exact PEv.neNil rfl rfl rfl | exact PEv.makeFunc rfl rfl rfl | exact PEv.build rfl rfl rfl | exact PEv.eqBT rfl rfl rfl rfl | exact PEv.neBF rfl rfl rfl rfl) | (first | exact PEv.eqB rfl rfl rfl | exact PEv.neB rfl rfl rfl | exact PEv.mulI rfl rfl rfl (by omega) (by omega) | (apply PEv.loadE rfl rfl rfl; assumption; assumption; exact rfl) | exact PEv.convS rfl rfl | exact PEv.convU8 rfl rfl | exact PEv.or128 rfl rfl (by omega) (by omega)) | (first | exact PEv.and127 rfl rfl (by omega) (by omega) | exact PEv.conv64 rfl rfl (by omega) (by omega) | exact PEv.conv8 rfl rfl (by omega) (by omega) | exact PEv.max2 rfl rfl rfl | exact PEv.min2 rfl rfl rfl | (refine PEv.cut3N rfl rfl rfl rfl ?_ ?_ <;> omega) | (refine PEv.cut3 rfl rfl rfl rfl ?_ ?_ ?_ <;> omega))) (hc : Go.Proofs.YtnndjobhcncanaaW.PrintLast.takeB .any ops ds l l' i = true := by kernel_rfl) (hle : sS.le s := by first | exact Store.le.refl _ | assumption) (hsub : Split hS h r := by (first | exact Split.refl _ | ((try dsimp only); repeat (first | exact Split.nil | (apply Split.cons; (repeat (first | exact Pick.head | apply Pick.tail))))))) (hn : Nat.blt d n = true := by exact rfl) (hD : C.D = [] := by exact Ctx.Is.D (by assumption)) : GD P C n ops sS hS ds (m + 1) l k f s h := GD.take hD l' hi hd hc hw he hle hsub hn H
theorem GD.no (i : Nat) {d : Tmp} (l' : Array Bool) (H : GD P C n ops sS hS ds m l' k ((d, undef) :: f) s h) (hi : ops[i]? = some o := by exact rfl) (hd : o.dst = some d := by exact rfl) (hw : Wants ops f o false := by first | exact Wants.at_ rfl rfl rfl rfl | exact Wants.un rfl rfl rfl)
    (hc : Go.Proofs.YtnndjobhcncanaaW.PrintLast.anyB .any ops l l' i = true := by kernel_rfl) (hn : Nat.blt d n = true := by exact rfl) (hD : C.D = [] := by exact Ctx.Is.D (by assumption)) : GD P C n ops sS hS ds (m + 1) l k f s h := GD.off hD l' hi hd hc hw hn H
theorem GD.nil (H : G P C n k f s h) (hr : (Region.ready .any ops l == []) = true := by kernel_rfl) : GD P C n ops sS hS ds m l k f s h := GD.done hr H
theorem GD.call (i : Nat) (l' : Array Bool) {g : FuncId} {xs : List Operand} {ts : Array TypeId} {vs : List Value} {h1 r : List Ent} {post : Ending → Store → List Ent → Prop} {d : Tmp} [en : Enters P g] (hi : ops[i]? = some o) (ho : o.op = .call { callee := .value (.func g), args := xs.toArray, argTypes := ts }) (hx : f.vals xs = some vs)
    (hc : Fn P g vs.toArray s h1 post) (hs : Split h1 h r) (H : ∀ v s' h1', post (.returned v) s' h1' → s.le s' → GD P C n ops sS hS ds m l' k ((d, v) :: f) s' (h1' ++ r)) (hkeep : ∀ v s' h1', post (.returned v) s' h1' → ∃ q, Split hS (h1' ++ r) q)
    (hno : ∀ s' h', ¬ post .outgrown s' h' := by intro _ _ hh; simp at hh) (hnp : ∀ ch s' h', ¬ post (.panicked ch) s' h' := by intro _ _ _ hh; simp at hh) (hds : i ∉ ds := by simp)
    (hd : o.dst = some d := by exact rfl) (hw : Wants ops f o true := by first | exact Wants.all rfl | exact Wants.at_ rfl rfl rfl rfl) (hcc : Go.Proofs.YtnndjobhcncanaaW.PrintLast.readyB .any ops l l' i = true := by kernel_rfl) (hle : sS.le s := by first | exact Store.le.refl _ | assumption) (hn : Nat.blt d n = true := by exact rfl) : GD P C n ops sS hS ds (m + 1) l k f s h :=
  GD.eff l' hi hd hcc hds hw (Eff.call ho hx hc hs hno) hle hn (by rintro v s' h' ⟨h1', hp, rfl⟩; exact hkeep v s' h1' hp) (by rintro v s' h' ⟨h1', hp, rfl⟩ hle; exact H v s' h1' hp hle) (by rintro ch s' h' ⟨h1', hp, _⟩ _; exact absurd hp (hnp ch s' h1'))
theorem GD.store (i : Nat) (l' : Array Bool) {t : TypeId} {x y : Operand} {g j : Nat} {c c' : List Value} {e : TypeId} {z v : Value} {b : Nat} {h2 : List Ent} [it : IT P t z 1 b] (H : GD P C n ops sS hS ds m l' k f s (.blk g (.cells c'.toArray e (0, 0)) :: h2)) (hi : ops[i]? = some o := by exact rfl) (ho : o.op = .store t x y := by exact rfl) (hx : f.val x = some (.pointer (some ⟨g, j, none⟩)) := by exact rfl) (hy : f.val y = some v := by exact rfl)
    (hv : v.oneCell' = true := by exact rfl) (hm : Pick (.blk g (.cells c.toArray e (0, 0))) h h2 := by (repeat (first | exact Pick.head | apply Pick.tail))) (hj : Nat.blt j c.length = true := by exact rfl) (hc : c.set j v = c' := by ((try simp only [List.set_cons_zero, List.set_cons_succ]); exact rfl)) (hd : o.dst = none := by exact rfl) (hw : Wants ops f o true := by first | exact Wants.all rfl | exact Wants.at_ rfl rfl rfl rfl) (hds : i ∈ ds := by simp) (hcc : Go.Proofs.YtnndjobhcncanaaW.PrintLast.readyB .any ops l l' i = true := by kernel_rfl) : GD P C n ops sS hS ds (m + 1) l k f s h :=
  GD.last0 l' hi hd hcc hds hw (Eff.store1 ho hx hy hv hm (by simpa [Nat.blt_eq] using hj) hc) (by rintro v s' h' ⟨_, rfl, rfl⟩ _; exact H) (by rintro _ _ _ ⟨e, _⟩; cases e)
end
end Go.Proofs.Ytnndjobhcncanaa
