/- Tables joined, by the program and by the document. No statement of the seat is proved here. -/
import Derived.Test.YtnndjobhcncanaaU13
import Derived.Test.YtnndjobhcncanaaU15
namespace Go.Proofs.Ytnndjobhcncanaa
open Go.RowKit
section
variable {P : Program} {C : Ctx} {n : Nat} {k : List Item} {f : Fr} {s : Store} {h : List Ent} {ops : Array Oper} {os : List Oper} {o : Oper} {sS : Store} {hS : List Ent} {ds : List Nat} {m : Nat} {l : Array Bool} {v : Value}
theorem Eff.lit1 {t e : TypeId} {x : Operand} {v z : Value} {b : Nat} [ut : UT P t (.slice e)] [it : IT P e z 1 b] (ho : o.op = .buildSlice t 1 #[(0, x)]) (hx : f.val x = some v) (hv : v.oneCell' = true) : Eff P f s h o (fun e' s' h' => ∃ A, e' = .returned (.slice A 1 1) ∧ h' = h ∧ Sl s' A 1 1 1 [v]) :=
  Eff.buildSlice (ps := [(0, x)]) (vs := [(0, v)]) (cs := [v]) ho (by simp [Fr.parts, hx]) (by decide) (by decide)
    (by
      have h1 : v.cells = #[v] := by cases v <;> simp_all [Value.cells, Value.oneCell']
      obtain ⟨u, h2⟩ : ∃ u, z.cells = #[u] := by
        have := it.cs
        exact ⟨z.cells[0]'(by omega), by
          apply Array.ext
          · simp [this]
          · intro i h1 h2
            have : i = 0 := by simp at h2; omega
            subst this
            rfl⟩
      have h3 : (Array.range 1).map ((z.cells)[· % z.cells.size]!) = #[u] := by rw [h2]; apply Array.ext <;> simp
      simp only [Nat.mul_one]
      rw [h3]
      simp [Instr.fill, h1]) rfl
theorem GD.lit1 (i : Nat) (l' : Array Bool) {t e : TypeId} {x : Operand} {v z : Value} {b : Nat} {d : Tmp} [ut : UT P t (.slice e)] [it : IT P e z 1 b] (hi : ops[i]? = some o) (ho : o.op = .buildSlice t 1 #[(0, x)]) (H : ∀ A s', s.le s' → Sl s' A 1 1 1 [v] → GD P C n ops sS hS ds m l' k ((d, .slice A 1 1) :: f) s' h) {r : List Ent} (hkeep : Split hS h r := by (first | exact Split.refl _ | ((try dsimp only); repeat (first | exact Split.nil | (apply Split.cons; (repeat (first | exact Pick.head | apply Pick.tail))))))) (hx : f.val x = some v := by exact rfl)
    (hv : v.oneCell' = true := by exact rfl) (hds : i ∉ ds := by simp) (hd : o.dst = some d := by exact rfl) (hw : Wants ops f o true := by first | exact Wants.all rfl | exact Wants.at_ rfl rfl rfl rfl) (hcc : Go.Proofs.YtnndjobhcncanaaW.PrintLast.readyB .any ops l l' i = true := by kernel_rfl) (hle : sS.le s := by first | exact Store.le.refl _ | assumption) (hn : Nat.blt d n = true := by exact rfl) : GD P C n ops sS hS ds (m + 1) l k f s h :=
  GD.eff l' hi hd hcc hds hw (Eff.lit1 ho hx hv) hle hn (by rintro v s' h' ⟨A, e, rfl, hs⟩; exact ⟨r, hkeep⟩) (by rintro v s' h' ⟨A, e, rfl, hs⟩ hle; cases e; exact H A s' hle hs) (by rintro _ _ _ ⟨A, e, _⟩; cases e)
end
theorem clone_calls (A : Option Addr) (n c : Nat) (l : List Int) (s : Store) (hs : Is s A n c l) (hn : 0 < n) (hm : n ≤ 1000000000000) : Fn Try.prog 40 #[.slice A n c] s [] (fun e _ h' => ∃ A' c', e = .returned (.slice A' n c') ∧ h' = [.buf (.slice A' n c') 3 1 n (icells l)]) := by
  have hl := hs.ilen
  have hA : A.isSome = true := by
    have := icells_at l 0 (by omega)
    exact (hs.at_ _ _ this).1
  obtain ⟨ad, rfl⟩ := Option.isSome_iff_exists.1 hA
  refine Fn.intro (args := [.slice (some ad) n c]) Try.func40 rfl Try.ntmps40 (Nat.le_of_ble_eq_true rfl) (fun C ok hh => ?_)
  repeat (first | (with_reducible first | refine GL.nil ?_ | refine G.region ?_ | refine G.seq ?_ | refine G.skip ?_ | refine G.block ?_ | refine G.inBlock ?_ | refine G.label ?_) | ((with_reducible show GL _ _ _ _ (_ :: _) _ _ _ _); first | refine GL.p ?_ | refine GL.pK ?_ | refine GL.store ?_ | refine GL.storeN ?_ | refine GL.boxA (fun g => ?_) | refine GL.box1 (fun g => ?_) | refine GL.alloc1 rfl (fun g => ?_) | refine GL.allocA (fun g => ?_) | refine GL.no ?_) | ((with_reducible show G _ _ _ (Item.code (Code.cond _ _ _) :: _) _ _ _); first | refine G.condT rfl ?_ | refine G.condF rfl ?_ | refine G.condYes rfl (by omega) ?_ | refine G.condNo rfl (by omega) ?_) | (with_reducible refine G.exit rfl ?_))
  refine GL.p (he := PEv.eqNilS rfl rfl) ?_
  repeat (first | (with_reducible first | refine GL.nil ?_ | refine G.region ?_ | refine G.seq ?_ | refine G.skip ?_ | refine G.block ?_ | refine G.inBlock ?_ | refine G.label ?_) | ((with_reducible show GL _ _ _ _ (_ :: _) _ _ _ _); first | refine GL.p ?_ | refine GL.pK ?_ | refine GL.store ?_ | refine GL.storeN ?_ | refine GL.boxA (fun g => ?_) | refine GL.box1 (fun g => ?_) | refine GL.alloc1 rfl (fun g => ?_) | refine GL.allocA (fun g => ?_) | refine GL.no ?_) | ((with_reducible show G _ _ _ (Item.code (Code.cond _ _ _) :: _) _ _ _); first | refine G.condT rfl ?_ | refine G.condF rfl ?_ | refine G.condYes rfl (by omega) ?_ | refine G.condNo rfl (by omega) ?_) | (with_reducible refine G.exit rfl ?_))
  refine GL.lit0 rfl fun g s1 hle1 => ?_
  repeat (first | (with_reducible first | refine GL.nil ?_ | refine G.region ?_ | refine G.seq ?_ | refine G.skip ?_ | refine G.block ?_ | refine G.inBlock ?_ | refine G.label ?_) | ((with_reducible show GL _ _ _ _ (_ :: _) _ _ _ _); first | refine GL.p ?_ | refine GL.pK ?_ | refine GL.store ?_ | refine GL.storeN ?_ | refine GL.boxA (fun g => ?_) | refine GL.box1 (fun g => ?_) | refine GL.alloc1 rfl (fun g => ?_) | refine GL.allocA (fun g => ?_) | refine GL.no ?_) | ((with_reducible show G _ _ _ (Item.code (Code.cond _ _ _) :: _) _ _ _); first | refine G.condT rfl ?_ | refine G.condF rfl ?_ | refine G.condYes rfl (by omega) ?_ | refine G.condNo rfl (by omega) ?_) | (with_reducible refine G.exit rfl ?_))
  refine GL.growS rfl (Src.of_sl (hs.le hle1) (icells_one l)) (Sl.empty _ _ 1) (by omega) (by omega) (by omega) (by decide) fun A2 c2 => ?_
  rw [Nat.zero_add, List.nil_append]
  repeat (first | (with_reducible first | refine GL.nil ?_ | refine G.region ?_ | refine G.seq ?_ | refine G.skip ?_ | refine G.block ?_ | refine G.inBlock ?_ | refine G.label ?_) | ((with_reducible show GL _ _ _ _ (_ :: _) _ _ _ _); first | refine GL.p ?_ | refine GL.pK ?_ | refine GL.store ?_ | refine GL.storeN ?_ | refine GL.boxA (fun g => ?_) | refine GL.box1 (fun g => ?_) | refine GL.alloc1 rfl (fun g => ?_) | refine GL.allocA (fun g => ?_) | refine GL.no ?_) | ((with_reducible show G _ _ _ (Item.code (Code.cond _ _ _) :: _) _ _ _); first | refine G.condT rfl ?_ | refine G.condF rfl ?_ | refine G.condYes rfl (by omega) ?_ | refine G.condNo rfl (by omega) ?_) | (with_reducible refine G.exit rfl ?_))
  refine G.ret1 ok rfl ?_
  exact ⟨_, _, rfl, rfl⟩
def jl (a b : TabD) : List Int := a.l.map fun v => nth b.l (v - b.st).toNat
structure joinOk (a b : TabD) : Prop where
  oka : a.ok
  okb : b.ok
  inr : ∀ i, i < a.h.n → b.st ≤ nth a.l i ∧ nth a.l i ≤ b.en
def JoinIs (a b t : TabD) (x : Int) : Prop := (¬ joinOk a b ∧ x = 2 ∧ t.st = 0 ∧ t.en = 0 ∧ t.l = []) ∨ (joinOk a b ∧ x = 0 ∧ t.st = a.st ∧ t.en = a.en ∧ t.l = jl a b)
theorem JoinIs.same {a b t u : TabD} {x y : Int} (h : JoinIs a b t x) (h' : JoinIs a b u y) : t.same u ∧ x = y := by
  rcases h with ⟨h0, rfl, h1, h2, h3⟩ | ⟨h0, rfl, h1, h2, h3⟩ <;> rcases h' with ⟨g0, rfl, g1, g2, g3⟩ | ⟨g0, rfl, g1, g2, g3⟩ <;> first | exact absurd h0 g0 | exact absurd g0 h0 | exact ⟨⟨h1.trans g1.symm, h2.trans g2.symm, h3.trans g3.symm⟩, rfl⟩
theorem jl_length (a b : TabD) : (jl a b).length = a.l.length := by simp [jl]
theorem jl_nth (a b : TabD) (i : Nat) (h : i < a.l.length) : nth (jl a b) i = nth b.l (nth a.l i - b.st).toNat := by simp [nth, jl, h]
theorem icells_set : ∀ (l : List Int) (j : Nat) (x : Int), (icells l).set j (.int .i64 x) = icells (l.set j x)
  | [], _, _ => by simp [icells]
  | y :: l, 0, x => rfl
  | y :: l, j + 1, x => by
    have := icells_set l j x
    simp only [icells, List.flatMap_cons, List.singleton_append, List.set_cons_succ] at this ⊢
    rw [this]
theorem mix_set {α : Type} (l m : List α) (i : Nat) (h : i < l.length) (h' : l.length = m.length) : (l.take i ++ m.drop i).set i l[i] = l.take (i + 1) ++ m.drop (i + 1) := by
  have h1 : m.drop i = m[i]'(by omega) :: m.drop (i + 1) := List.drop_eq_getElem_cons (by omega)
  have h2 : (l.take i).length = i := by simp; omega
  rw [List.take_succ_eq_append_getElem h, h1, List.set_append_right _ _ (by omega), h2, Nat.sub_self, List.set_cons_zero, List.append_assoc]
  rfl
theorem mix_nth (l m : List Int) (i : Nat) (h : i < m.length) (h' : l.length = m.length) : nth (l.take i ++ m.drop i) i = nth m i := by
  unfold nth
  rw [List.getElem?_append_right (by simp; omega)]
  have : i - (l.take i).length = 0 := by simp; omega
  rw [this, List.getElem?_drop]
  simp
set_option maxHeartbeats 16000000 in
theorem joinR_calls (a b : TabD) (s : Store) (ha : a.laid s) (hb : b.laid s) : Fn Try.prog 26 #[a.v, b.v] s [] (fun e s' h' => ∃ t x, e = .returned (.tuple #[t.v, .int .i64 x]) ∧ JoinIs a b t x ∧ t.laid s' ∧ h' = []) := by
  have hal := ha.ilen
  have hbl := hb.ilen
  refine Fn.intro (args := [a.v, b.v]) Try.func26 rfl Try.ntmps26 (Nat.le_of_ble_eq_true rfl) (fun C ok hh => ?_)
  repeat (first | (with_reducible first | refine GL.nil ?_ | refine G.region ?_ | refine G.seq ?_ | refine G.skip ?_ | refine G.block ?_ | refine G.inBlock ?_ | refine G.label ?_) | ((with_reducible show GL _ _ _ _ (_ :: _) _ _ _ _); first | refine GL.p ?_ | refine GL.pK ?_ | refine GL.store ?_ | refine GL.storeN ?_ | refine GL.boxA (fun g => ?_) | refine GL.box1 (fun g => ?_) | refine GL.alloc1 rfl (fun g => ?_) | refine GL.allocA (fun g => ?_) | refine GL.no ?_) | ((with_reducible show G _ _ _ (Item.code (Code.cond _ _ _) :: _) _ _ _); first | refine G.condT rfl ?_ | refine G.condF rfl ?_ | refine G.condYes rfl (by omega) ?_ | refine G.condNo rfl (by omega) ?_) | (with_reducible refine G.exit rfl ?_))
  rename_i g2 g3
  refine GL.call rfl rfl (tcheckR_calls a s ha) .nil fun v s1 h1' hq hle1 => ?_
  obtain ⟨x, e1, hx, hs1, rfl⟩ := hq
  subst s1
  cases e1
  rw [List.nil_append]
  rcases hx with ⟨rfl, hka⟩ | ⟨rfl, hka⟩
  rotate_left
  · repeat (first | (with_reducible first | refine GL.nil ?_ | refine G.region ?_ | refine G.seq ?_ | refine G.skip ?_ | refine G.block ?_ | refine G.inBlock ?_ | refine G.label ?_) | ((with_reducible show GL _ _ _ _ (_ :: _) _ _ _ _); first | refine GL.p ?_ | refine GL.pK ?_ | refine GL.store ?_ | refine GL.storeN ?_ | refine GL.boxA (fun g => ?_) | refine GL.box1 (fun g => ?_) | refine GL.alloc1 rfl (fun g => ?_) | refine GL.allocA (fun g => ?_) | refine GL.no ?_) | ((with_reducible show G _ _ _ (Item.code (Code.cond _ _ _) :: _) _ _ _); first | refine G.condT rfl ?_ | refine G.condF rfl ?_ | refine G.condYes rfl (by omega) ?_ | refine G.condNo rfl (by omega) ?_) | (with_reducible refine G.exit rfl ?_))
    refine G.retS (h' := []) (v := .tuple #[tabZ.v, .int .i64 2]) ok (resNc1 rfl rfl rfl rfl rfl (by (repeat (first | exact List.Mem.head _ | apply List.Mem.tail)))) .nil ?_
    exact ⟨tabZ, 2, rfl, .inl ⟨fun h => hka h.oka, rfl, rfl, rfl, rfl⟩, tabZ_laid s, rfl⟩
  repeat (first | (with_reducible first | refine GL.nil ?_ | refine G.region ?_ | refine G.seq ?_ | refine G.skip ?_ | refine G.block ?_ | refine G.inBlock ?_ | refine G.label ?_) | ((with_reducible show GL _ _ _ _ (_ :: _) _ _ _ _); first | refine GL.p ?_ | refine GL.pK ?_ | refine GL.store ?_ | refine GL.storeN ?_ | refine GL.boxA (fun g => ?_) | refine GL.box1 (fun g => ?_) | refine GL.alloc1 rfl (fun g => ?_) | refine GL.allocA (fun g => ?_) | refine GL.no ?_) | ((with_reducible show G _ _ _ (Item.code (Code.cond _ _ _) :: _) _ _ _); first | refine G.condT rfl ?_ | refine G.condF rfl ?_ | refine G.condYes rfl (by omega) ?_ | refine G.condNo rfl (by omega) ?_) | (with_reducible refine G.exit rfl ?_))
  refine GL.call rfl rfl (tcheckR_calls b s hb) .nil fun v s1 h1' hq hle2 => ?_
  obtain ⟨x, e1, hx, hs1, rfl⟩ := hq
  subst s1
  cases e1
  rw [List.nil_append]
  rcases hx with ⟨rfl, hkb⟩ | ⟨rfl, hkb⟩
  rotate_left
  · repeat (first | (with_reducible first | refine GL.nil ?_ | refine G.region ?_ | refine G.seq ?_ | refine G.skip ?_ | refine G.block ?_ | refine G.inBlock ?_ | refine G.label ?_) | ((with_reducible show GL _ _ _ _ (_ :: _) _ _ _ _); first | refine GL.p ?_ | refine GL.pK ?_ | refine GL.store ?_ | refine GL.storeN ?_ | refine GL.boxA (fun g => ?_) | refine GL.box1 (fun g => ?_) | refine GL.alloc1 rfl (fun g => ?_) | refine GL.allocA (fun g => ?_) | refine GL.no ?_) | ((with_reducible show G _ _ _ (Item.code (Code.cond _ _ _) :: _) _ _ _); first | refine G.condT rfl ?_ | refine G.condF rfl ?_ | refine G.condYes rfl (by omega) ?_ | refine G.condNo rfl (by omega) ?_) | (with_reducible refine G.exit rfl ?_))
    refine G.retS (h' := []) (v := .tuple #[tabZ.v, .int .i64 2]) ok (resNc1 rfl rfl rfl rfl rfl (by (repeat (first | exact List.Mem.head _ | apply List.Mem.tail)))) .nil ?_
    exact ⟨tabZ, 2, rfl, .inl ⟨fun h => hkb h.okb, rfl, rfl, rfl, rfl⟩, tabZ_laid s, rfl⟩
  have q0 := hka.st
  have q1 := hka.se
  have q2 := hka.en
  have q3 := hka.len
  have r0 := hkb.st
  have r1 := hkb.se
  have r2 := hkb.en
  have r3 := hkb.len
  repeat (first | (with_reducible first | refine GL.nil ?_ | refine G.region ?_ | refine G.seq ?_ | refine G.skip ?_ | refine G.block ?_ | refine G.inBlock ?_ | refine G.label ?_) | ((with_reducible show GL _ _ _ _ (_ :: _) _ _ _ _); first | refine GL.p ?_ | refine GL.pK ?_ | refine GL.store ?_ | refine GL.storeN ?_ | refine GL.boxA (fun g => ?_) | refine GL.box1 (fun g => ?_) | refine GL.alloc1 rfl (fun g => ?_) | refine GL.allocA (fun g => ?_) | refine GL.no ?_) | ((with_reducible show G _ _ _ (Item.code (Code.cond _ _ _) :: _) _ _ _); first | refine G.condT rfl ?_ | refine G.condF rfl ?_ | refine G.condYes rfl (by omega) ?_ | refine G.condNo rfl (by omega) ?_) | (with_reducible refine G.exit rfl ?_))
  rename_i g4
  refine G.nilbuf 3 1 ?_
  refine G.loop (fun x : Nat × Option Addr × Nat => [(2, .pointer (some ⟨g2, 0, none⟩)), (3, .pointer (some ⟨g3, 0, none⟩)), (4, .pointer (some ⟨g4, 0, none⟩)), (6, .pointer (some ⟨g, 0, none⟩)), (7, .int .i64 x.1)])
    (fun x => [tabE g2 a, tabE g3 b, tabE g4 tabZ, tabE g ⟨a.st, a.en, ⟨x.2.1, x.1, x.2.2⟩, []⟩, .buf (.slice x.2.1 x.1 x.2.2) 3 1 x.1 (icells ((jl a b).take x.1))]) (fun x s' => s.le s' ∧ x.1 ≤ a.h.n ∧ ∀ i, i < x.1 → b.st ≤ nth a.l i ∧ nth a.l i ≤ b.en) (fun x => a.h.n - x.1) (0, none, 0) (by ((repeat' (first | exact trivial | refine And.intro ?_ ?_)); all_goals (first | (refine congrArg some (congrArg (Value.int _) ?_); (try dsimp only); omega) | exact rfl))) (by (first | exact Split.refl _ | ((try dsimp only); repeat (first | exact Split.nil | (apply Split.cons; (repeat (first | exact Pick.head | apply Pick.tail))))))) ⟨Store.le.refl _, Nat.zero_le _, fun i hi => by simp at hi⟩ ?_
  rintro ⟨i, A, cc⟩ s1 ⟨hle, hi, hin⟩ ih
  dsimp only at hi hin ⊢
  replace ha := ha.le hle
  replace hb := hb.le hle
  by_cases hlt : (i : Int) < a.h.n
  · have hat := icells_at a.l i (by omega)
    by_cases h1 : nth a.l i < b.st
    · repeat (first | (with_reducible first | refine GL.nil ?_ | refine G.region ?_ | refine G.seq ?_ | refine G.skip ?_ | refine G.block ?_ | refine G.inBlock ?_ | refine G.label ?_) | ((with_reducible show GL _ _ _ _ (_ :: _) _ _ _ _); first | refine GL.p ?_ | refine GL.pK ?_ | refine GL.store ?_ | refine GL.storeN ?_ | refine GL.boxA (fun g => ?_) | refine GL.box1 (fun g => ?_) | refine GL.alloc1 rfl (fun g => ?_) | refine GL.allocA (fun g => ?_) | refine GL.no ?_) | ((with_reducible show G _ _ _ (Item.code (Code.cond _ _ _) :: _) _ _ _); first | refine G.condT rfl ?_ | refine G.condF rfl ?_ | refine G.condYes rfl (by omega) ?_ | refine G.condNo rfl (by omega) ?_) | (with_reducible refine G.exit rfl ?_))
      refine G.retS (h' := []) (v := .tuple #[tabZ.v, .int .i64 2]) ok (resNc1 rfl rfl rfl rfl rfl (by (repeat (first | exact List.Mem.head _ | apply List.Mem.tail)))) .nil ?_
      exact ⟨tabZ, 2, rfl, .inl ⟨fun h => by have := (h.inr i (by omega)).1; omega, rfl, rfl, rfl, rfl⟩, tabZ_laid s1, rfl⟩
    by_cases h2 : b.en < nth a.l i
    · repeat (first | (with_reducible first | refine GL.nil ?_ | refine G.region ?_ | refine G.seq ?_ | refine G.skip ?_ | refine G.block ?_ | refine G.inBlock ?_ | refine G.label ?_) | ((with_reducible show GL _ _ _ _ (_ :: _) _ _ _ _); first | refine GL.p ?_ | refine GL.pK ?_ | refine GL.store ?_ | refine GL.storeN ?_ | refine GL.boxA (fun g => ?_) | refine GL.box1 (fun g => ?_) | refine GL.alloc1 rfl (fun g => ?_) | refine GL.allocA (fun g => ?_) | refine GL.no ?_) | ((with_reducible show G _ _ _ (Item.code (Code.cond _ _ _) :: _) _ _ _); first | refine G.condT rfl ?_ | refine G.condF rfl ?_ | refine G.condYes rfl (by omega) ?_ | refine G.condNo rfl (by omega) ?_) | (with_reducible refine G.exit rfl ?_))
      refine G.retS (h' := []) (v := .tuple #[tabZ.v, .int .i64 2]) ok (resNc1 rfl rfl rfl rfl rfl (by (repeat (first | exact List.Mem.head _ | apply List.Mem.tail)))) .nil ?_
      exact ⟨tabZ, 2, rfl, .inl ⟨fun h => by have := (h.inr i (by omega)).2; omega, rfl, rfl, rfl, rfl⟩, tabZ_laid s1, rfl⟩
    have hbt := icells_geti (l := b.l) (x := nth a.l i - b.st) (i := (nth a.l i - b.st).toNat) rfl (by omega)
    have htake := List.take_succ_eq_append_getElem (l := jl a b) (i := i) (by rw [jl_length]; omega)
    rw [nth_of (by rw [jl_length]; omega), jl_nth a b i (by omega)] at htake
    repeat (first | (with_reducible first | refine GL.nil ?_ | refine G.region ?_ | refine G.seq ?_ | refine G.skip ?_ | refine G.block ?_ | refine G.inBlock ?_ | refine G.label ?_) | ((with_reducible show GL _ _ _ _ (_ :: _) _ _ _ _); first | refine GL.p ?_ | refine GL.pK ?_ | refine GL.store ?_ | refine GL.storeN ?_ | refine GL.boxA (fun g => ?_) | refine GL.box1 (fun g => ?_) | refine GL.alloc1 rfl (fun g => ?_) | refine GL.allocA (fun g => ?_) | refine GL.no ?_) | ((with_reducible show G _ _ _ (Item.code (Code.cond _ _ _) :: _) _ _ _); first | refine G.condT rfl ?_ | refine G.condF rfl ?_ | refine G.condYes rfl (by omega) ?_ | refine G.condNo rfl (by omega) ?_) | (with_reducible refine G.exit rfl ?_))
    refine G.draw (m := 14) [tabE g2 a, tabE g3 b, tabE g4 tabZ, tabE g ⟨a.st, a.en, ⟨A, i, cc⟩, []⟩] [13] (lay 14 0) follows_mixed rfl (by kernel_rfl) (by (first | exact Split.refl _ | ((try dsimp only); repeat (first | exact Split.nil | (apply Split.cons; (repeat (first | exact Pick.head | apply Pick.tail))))))) ?_
    (first | refine GD.p 0 (lay 14 1) ?_ | refine GD.no 0 (lay 14 1) ?_ | refine GD.pK 0 (lay 14 1) ?_); (first | refine GD.p 1 (lay 14 3) ?_ | refine GD.no 1 (lay 14 3) ?_ | refine GD.pK 1 (lay 14 3) ?_); (first | refine GD.p 2 (lay 14 7) ?_ | refine GD.no 2 (lay 14 7) ?_ | refine GD.pK 2 (lay 14 7) ?_); (first | refine GD.p 3 (lay 14 15) ?_ | refine GD.no 3 (lay 14 15) ?_ | refine GD.pK 3 (lay 14 15) ?_); (first | refine GD.p 4 (lay 14 31) ?_ | refine GD.no 4 (lay 14 31) ?_ | refine GD.pK 4 (lay 14 31) ?_); (first | refine GD.p 5 (lay 14 63) ?_ | refine GD.no 5 (lay 14 63) ?_ | refine GD.pK 5 (lay 14 63) ?_); (first | refine GD.p 6 (lay 14 127) ?_ | refine GD.no 6 (lay 14 127) ?_ | refine GD.pK 6 (lay 14 127) ?_); (first | refine GD.p 7 (lay 14 255) ?_ | refine GD.no 7 (lay 14 255) ?_ | refine GD.pK 7 (lay 14 255) ?_); (first | refine GD.p 8 (lay 14 511) ?_ | refine GD.no 8 (lay 14 511) ?_ | refine GD.pK 8 (lay 14 511) ?_); (first | refine GD.p 9 (lay 14 1023) ?_ | refine GD.no 9 (lay 14 1023) ?_ | refine GD.pK 9 (lay 14 1023) ?_)
    refine GD.lit1 10 (lay 14 2047) rfl rfl fun A1 s3 hle4 hs3 => ?_
    refine GD.appS 11 (lay 14 4095) rfl rfl rfl (Src.of_sl hs3 (by simp [Value.oneCell'])) (by (try dsimp only); omega) (by (try dsimp only); omega) (fun A2 c2 => ?_) (fun A2 c2 => ⟨_, .cons (.tail .head) (.cons (.tail .head) (.cons (.tail .head) (.cons (.tail .head) .nil)))⟩)
    rw [icells_snoc, ← htake]
    (first | refine GD.p 12 (lay 14 8191) ?_ | refine GD.no 12 (lay 14 8191) ?_ | refine GD.pK 12 (lay 14 8191) ?_)
    refine GD.store 13 (lay 14 16383) ?_
    refine GD.nil ?_
    repeat (first | (with_reducible first | refine GL.nil ?_ | refine G.region ?_ | refine G.seq ?_ | refine G.skip ?_ | refine G.block ?_ | refine G.inBlock ?_ | refine G.label ?_) | ((with_reducible show GL _ _ _ _ (_ :: _) _ _ _ _); first | refine GL.p ?_ | refine GL.pK ?_ | refine GL.store ?_ | refine GL.storeN ?_ | refine GL.boxA (fun g => ?_) | refine GL.box1 (fun g => ?_) | refine GL.alloc1 rfl (fun g => ?_) | refine GL.allocA (fun g => ?_) | refine GL.no ?_) | ((with_reducible show G _ _ _ (Item.code (Code.cond _ _ _) :: _) _ _ _); first | refine G.condT rfl ?_ | refine G.condF rfl ?_ | refine G.condYes rfl (by omega) ?_ | refine G.condNo rfl (by omega) ?_) | (with_reducible refine G.exit rfl ?_))
    refine ih (i + 1, A2, c2) _ _ _ _ (by ((repeat' (first | exact trivial | refine And.intro ?_ ?_)); all_goals (first | (refine congrArg some (congrArg (Value.int _) ?_); (try dsimp only); omega) | exact rfl))) (by (first | exact Split.refl _ | ((try dsimp only); repeat (first | exact Split.nil | (apply Split.cons; (repeat (first | exact Pick.head | apply Pick.tail))))))) ⟨hle.trans hle4, by dsimp only; omega, fun j hj => ?_⟩ (by dsimp only; omega)
    dsimp only at hj
    rcases Nat.lt_or_ge j i with h | h
    · exact hin j h
    · obtain rfl : j = i := by omega
      exact ⟨by omega, by omega⟩
  · obtain rfl : i = a.h.n := by omega
    repeat (first | (with_reducible first | refine GL.nil ?_ | refine G.region ?_ | refine G.seq ?_ | refine G.skip ?_ | refine G.block ?_ | refine G.inBlock ?_ | refine G.label ?_) | ((with_reducible show GL _ _ _ _ (_ :: _) _ _ _ _); first | refine GL.p ?_ | refine GL.pK ?_ | refine GL.store ?_ | refine GL.storeN ?_ | refine GL.boxA (fun g => ?_) | refine GL.box1 (fun g => ?_) | refine GL.alloc1 rfl (fun g => ?_) | refine GL.allocA (fun g => ?_) | refine GL.no ?_) | ((with_reducible show G _ _ _ (Item.code (Code.cond _ _ _) :: _) _ _ _); first | refine G.condT rfl ?_ | refine G.condF rfl ?_ | refine G.condYes rfl (by omega) ?_ | refine G.condNo rfl (by omega) ?_) | (with_reducible refine G.exit rfl ?_))
    refine G.freezeBuf (by (repeat (first | exact Pick.head | apply Pick.tail))) fun s3 hle4 hs3 => ?_
    rw [List.take_of_length_le (by rw [jl_length]; omega)] at hs3
    refine G.retS (h' := []) (v := .tuple #[TabD.v ⟨a.st, a.en, ⟨A, a.h.n, cc⟩, jl a b⟩, .int .i64 0]) ok (resNc1 rfl rfl rfl rfl rfl (by (repeat (first | exact List.Mem.head _ | apply List.Mem.tail)))) .nil ?_
    exact ⟨⟨a.st, a.en, ⟨A, a.h.n, cc⟩, jl a b⟩, 0, rfl, .inr ⟨⟨hka, hkb, hin⟩, rfl, rfl, rfl, rfl⟩, hs3, rfl⟩
theorem loadsBuf (l : List Int) (i : Nat) (hi : i < l.length) : (icells l)[0 + (i : Int).toNat * 1]? = some (.int .i64 (nth l i)) := by
  rw [Nat.zero_add]
  exact icells_at l i hi
set_option maxRecDepth 100000 in
set_option maxHeartbeats 16000000 in
theorem join_calls (a b : TabD) (s : Store) (ha : a.laid s) (hb : b.laid s) : Fn Try.prog 25 #[a.v, b.v] s [] (fun e s' h' => ∃ t x, e = .returned (.tuple #[t.v, .int .i64 x]) ∧ JoinIs a b t x ∧ t.laid s' ∧ h' = []) := by
  have hal := ha.ilen
  have hbl := hb.ilen
  refine Fn.intro (args := [a.v, b.v]) Try.func25 rfl Try.ntmps25 (Nat.le_of_ble_eq_true rfl) (fun C ok hh => ?_)
  repeat (first | (with_reducible first | refine GL.nil ?_ | refine G.region ?_ | refine G.seq ?_ | refine G.skip ?_ | refine G.block ?_ | refine G.inBlock ?_ | refine G.label ?_) | ((with_reducible show GL _ _ _ _ (_ :: _) _ _ _ _); first | refine GL.p ?_ | refine GL.pK ?_ | refine GL.store ?_ | refine GL.storeN ?_ | refine GL.boxA (fun g => ?_) | refine GL.box1 (fun g => ?_) | refine GL.alloc1 rfl (fun g => ?_) | refine GL.allocA (fun g => ?_) | refine GL.no ?_) | ((with_reducible show G _ _ _ (Item.code (Code.cond _ _ _) :: _) _ _ _); first | refine G.condT rfl ?_ | refine G.condF rfl ?_ | refine G.condYes rfl (by omega) ?_ | refine G.condNo rfl (by omega) ?_) | (with_reducible refine G.exit rfl ?_))
  rename_i g2 g3
  refine G.draw0 (m := 30) (lay 30 0) follows_mixed ?_
  (first | refine GD.p 0 (lay 30 1) ?_ | refine GD.no 0 (lay 30 1) ?_ | refine GD.pK 0 (lay 30 1) ?_)
  refine GD.call 1 (lay 30 3) rfl rfl rfl (tcheck_calls a s ha) .nil (fun v s1 h1' hq hle1 => ?_) (fun v s1 h1' hq => ?_)
  rotate_left
  · obtain ⟨x, e1, hx, hs1, rfl⟩ := hq
    exact ⟨_, Split.refl _⟩
  obtain ⟨x, e1, hx, hs1, rfl⟩ := hq
  subst s1
  cases e1
  rw [List.nil_append]
  rcases hx with ⟨rfl, hka⟩ | ⟨rfl, hka⟩
  rotate_left
  · (first | refine GD.p 2 (lay 30 7) ?_ | refine GD.no 2 (lay 30 7) ?_ | refine GD.pK 2 (lay 30 7) ?_); (first | refine GD.p 3 (lay 30 15) ?_ | refine GD.no 3 (lay 30 15) ?_ | refine GD.pK 3 (lay 30 15) ?_); (first | refine GD.p 4 (lay 30 31) ?_ | refine GD.no 4 (lay 30 31) ?_ | refine GD.pK 4 (lay 30 31) ?_); (first | refine GD.p 5 (lay 30 63) ?_ | refine GD.no 5 (lay 30 63) ?_ | refine GD.pK 5 (lay 30 63) ?_); (first | refine GD.p 6 (lay 30 127) ?_ | refine GD.no 6 (lay 30 127) ?_ | refine GD.pK 6 (lay 30 127) ?_); (first | refine GD.p 7 (lay 30 255) ?_ | refine GD.no 7 (lay 30 255) ?_ | refine GD.pK 7 (lay 30 255) ?_); (first | refine GD.p 8 (lay 30 511) ?_ | refine GD.no 8 (lay 30 511) ?_ | refine GD.pK 8 (lay 30 511) ?_); (first | refine GD.p 9 (lay 30 1023) ?_ | refine GD.no 9 (lay 30 1023) ?_ | refine GD.pK 9 (lay 30 1023) ?_); (first | refine GD.p 10 (lay 30 2047) ?_ | refine GD.no 10 (lay 30 2047) ?_ | refine GD.pK 10 (lay 30 2047) ?_); (first | refine GD.p 11 (lay 30 4095) ?_ | refine GD.no 11 (lay 30 4095) ?_ | refine GD.pK 11 (lay 30 4095) ?_); (first | refine GD.p 12 (lay 30 8191) ?_ | refine GD.no 12 (lay 30 8191) ?_ | refine GD.pK 12 (lay 30 8191) ?_); (first | refine GD.p 13 (lay 30 16383) ?_ | refine GD.no 13 (lay 30 16383) ?_ | refine GD.pK 13 (lay 30 16383) ?_); (first | refine GD.p 14 (lay 30 32767) ?_ | refine GD.no 14 (lay 30 32767) ?_ | refine GD.pK 14 (lay 30 32767) ?_); (first | refine GD.p 15 (lay 30 65535) ?_ | refine GD.no 15 (lay 30 65535) ?_ | refine GD.pK 15 (lay 30 65535) ?_); (first | refine GD.p 16 (lay 30 131071) ?_ | refine GD.no 16 (lay 30 131071) ?_ | refine GD.pK 16 (lay 30 131071) ?_); (first | refine GD.p 17 (lay 30 262143) ?_ | refine GD.no 17 (lay 30 262143) ?_ | refine GD.pK 17 (lay 30 262143) ?_); (first | refine GD.p 18 (lay 30 524287) ?_ | refine GD.no 18 (lay 30 524287) ?_ | refine GD.pK 18 (lay 30 524287) ?_); (first | refine GD.p 19 (lay 30 1048575) ?_ | refine GD.no 19 (lay 30 1048575) ?_ | refine GD.pK 19 (lay 30 1048575) ?_); (first | refine GD.p 20 (lay 30 2097151) ?_ | refine GD.no 20 (lay 30 2097151) ?_ | refine GD.pK 20 (lay 30 2097151) ?_); (first | refine GD.p 21 (lay 30 4194303) ?_ | refine GD.no 21 (lay 30 4194303) ?_ | refine GD.pK 21 (lay 30 4194303) ?_); (first | refine GD.p 22 (lay 30 8388607) ?_ | refine GD.no 22 (lay 30 8388607) ?_ | refine GD.pK 22 (lay 30 8388607) ?_); (first | refine GD.p 23 (lay 30 16777215) ?_ | refine GD.no 23 (lay 30 16777215) ?_ | refine GD.pK 23 (lay 30 16777215) ?_); (first | refine GD.p 24 (lay 30 33554431) ?_ | refine GD.no 24 (lay 30 33554431) ?_ | refine GD.pK 24 (lay 30 33554431) ?_); (first | refine GD.p 25 (lay 30 67108863) ?_ | refine GD.no 25 (lay 30 67108863) ?_ | refine GD.pK 25 (lay 30 67108863) ?_); (first | refine GD.p 26 (lay 30 134217727) ?_ | refine GD.no 26 (lay 30 134217727) ?_ | refine GD.pK 26 (lay 30 134217727) ?_); (first | refine GD.p 27 (lay 30 268435455) ?_ | refine GD.no 27 (lay 30 268435455) ?_ | refine GD.pK 27 (lay 30 268435455) ?_); (first | refine GD.p 28 (lay 30 536870911) ?_ | refine GD.no 28 (lay 30 536870911) ?_ | refine GD.pK 28 (lay 30 536870911) ?_); (first | refine GD.p 29 (lay 30 1073741823) ?_ | refine GD.no 29 (lay 30 1073741823) ?_ | refine GD.pK 29 (lay 30 1073741823) ?_)
    refine GD.nil ?_
    repeat (first | (with_reducible first | refine GL.nil ?_ | refine G.region ?_ | refine G.seq ?_ | refine G.skip ?_ | refine G.block ?_ | refine G.inBlock ?_ | refine G.label ?_) | ((with_reducible show GL _ _ _ _ (_ :: _) _ _ _ _); first | refine GL.p ?_ | refine GL.pK ?_ | refine GL.store ?_ | refine GL.storeN ?_ | refine GL.boxA (fun g => ?_) | refine GL.box1 (fun g => ?_) | refine GL.alloc1 rfl (fun g => ?_) | refine GL.allocA (fun g => ?_) | refine GL.no ?_) | ((with_reducible show G _ _ _ (Item.code (Code.cond _ _ _) :: _) _ _ _); first | refine G.condT rfl ?_ | refine G.condF rfl ?_ | refine G.condYes rfl (by omega) ?_ | refine G.condNo rfl (by omega) ?_) | (with_reducible refine G.exit rfl ?_))
    refine G.retS (h' := []) (v := .tuple #[tabZ.v, .int .i64 2]) ok (resNc1 rfl rfl rfl rfl rfl (by (repeat (first | exact List.Mem.head _ | apply List.Mem.tail)))) .nil ?_
    exact ⟨tabZ, 2, rfl, .inl ⟨fun h => hka h.oka, rfl, rfl, rfl, rfl⟩, tabZ_laid s, rfl⟩
  (first | refine GD.p 2 (lay 30 7) ?_ | refine GD.no 2 (lay 30 7) ?_ | refine GD.pK 2 (lay 30 7) ?_); (first | refine GD.p 3 (lay 30 15) ?_ | refine GD.no 3 (lay 30 15) ?_ | refine GD.pK 3 (lay 30 15) ?_); (first | refine GD.p 4 (lay 30 31) ?_ | refine GD.no 4 (lay 30 31) ?_ | refine GD.pK 4 (lay 30 31) ?_)
  refine GD.call 5 (lay 30 63) rfl rfl rfl (tcheck_calls b s hb) .nil (fun v s1 h1' hq hle2 => ?_) (fun v s1 h1' hq => ?_)
  rotate_left
  · obtain ⟨x, e1, hx, hs1, rfl⟩ := hq
    exact ⟨_, Split.refl _⟩
  obtain ⟨x, e1, hx, hs1, rfl⟩ := hq
  subst s1
  cases e1
  rw [List.nil_append]
  rcases hx with ⟨rfl, hkb⟩ | ⟨rfl, hkb⟩
  rotate_left
  · (first | refine GD.p 6 (lay 30 127) ?_ | refine GD.no 6 (lay 30 127) ?_ | refine GD.pK 6 (lay 30 127) ?_); (first | refine GD.p 7 (lay 30 255) ?_ | refine GD.no 7 (lay 30 255) ?_ | refine GD.pK 7 (lay 30 255) ?_); (first | refine GD.p 8 (lay 30 511) ?_ | refine GD.no 8 (lay 30 511) ?_ | refine GD.pK 8 (lay 30 511) ?_); (first | refine GD.p 9 (lay 30 1023) ?_ | refine GD.no 9 (lay 30 1023) ?_ | refine GD.pK 9 (lay 30 1023) ?_); (first | refine GD.p 10 (lay 30 2047) ?_ | refine GD.no 10 (lay 30 2047) ?_ | refine GD.pK 10 (lay 30 2047) ?_); (first | refine GD.p 11 (lay 30 4095) ?_ | refine GD.no 11 (lay 30 4095) ?_ | refine GD.pK 11 (lay 30 4095) ?_); (first | refine GD.p 12 (lay 30 8191) ?_ | refine GD.no 12 (lay 30 8191) ?_ | refine GD.pK 12 (lay 30 8191) ?_); (first | refine GD.p 13 (lay 30 16383) ?_ | refine GD.no 13 (lay 30 16383) ?_ | refine GD.pK 13 (lay 30 16383) ?_); (first | refine GD.p 14 (lay 30 32767) ?_ | refine GD.no 14 (lay 30 32767) ?_ | refine GD.pK 14 (lay 30 32767) ?_); (first | refine GD.p 15 (lay 30 65535) ?_ | refine GD.no 15 (lay 30 65535) ?_ | refine GD.pK 15 (lay 30 65535) ?_); (first | refine GD.p 16 (lay 30 131071) ?_ | refine GD.no 16 (lay 30 131071) ?_ | refine GD.pK 16 (lay 30 131071) ?_); (first | refine GD.p 17 (lay 30 262143) ?_ | refine GD.no 17 (lay 30 262143) ?_ | refine GD.pK 17 (lay 30 262143) ?_); (first | refine GD.p 18 (lay 30 524287) ?_ | refine GD.no 18 (lay 30 524287) ?_ | refine GD.pK 18 (lay 30 524287) ?_); (first | refine GD.p 19 (lay 30 1048575) ?_ | refine GD.no 19 (lay 30 1048575) ?_ | refine GD.pK 19 (lay 30 1048575) ?_); (first | refine GD.p 20 (lay 30 2097151) ?_ | refine GD.no 20 (lay 30 2097151) ?_ | refine GD.pK 20 (lay 30 2097151) ?_); (first | refine GD.p 21 (lay 30 4194303) ?_ | refine GD.no 21 (lay 30 4194303) ?_ | refine GD.pK 21 (lay 30 4194303) ?_); (first | refine GD.p 22 (lay 30 8388607) ?_ | refine GD.no 22 (lay 30 8388607) ?_ | refine GD.pK 22 (lay 30 8388607) ?_); (first | refine GD.p 23 (lay 30 16777215) ?_ | refine GD.no 23 (lay 30 16777215) ?_ | refine GD.pK 23 (lay 30 16777215) ?_); (first | refine GD.p 24 (lay 30 33554431) ?_ | refine GD.no 24 (lay 30 33554431) ?_ | refine GD.pK 24 (lay 30 33554431) ?_); (first | refine GD.p 25 (lay 30 67108863) ?_ | refine GD.no 25 (lay 30 67108863) ?_ | refine GD.pK 25 (lay 30 67108863) ?_); (first | refine GD.p 26 (lay 30 134217727) ?_ | refine GD.no 26 (lay 30 134217727) ?_ | refine GD.pK 26 (lay 30 134217727) ?_); (first | refine GD.p 27 (lay 30 268435455) ?_ | refine GD.no 27 (lay 30 268435455) ?_ | refine GD.pK 27 (lay 30 268435455) ?_); (first | refine GD.p 28 (lay 30 536870911) ?_ | refine GD.no 28 (lay 30 536870911) ?_ | refine GD.pK 28 (lay 30 536870911) ?_); (first | refine GD.p 29 (lay 30 1073741823) ?_ | refine GD.no 29 (lay 30 1073741823) ?_ | refine GD.pK 29 (lay 30 1073741823) ?_)
    refine GD.nil ?_
    repeat (first | (with_reducible first | refine GL.nil ?_ | refine G.region ?_ | refine G.seq ?_ | refine G.skip ?_ | refine G.block ?_ | refine G.inBlock ?_ | refine G.label ?_) | ((with_reducible show GL _ _ _ _ (_ :: _) _ _ _ _); first | refine GL.p ?_ | refine GL.pK ?_ | refine GL.store ?_ | refine GL.storeN ?_ | refine GL.boxA (fun g => ?_) | refine GL.box1 (fun g => ?_) | refine GL.alloc1 rfl (fun g => ?_) | refine GL.allocA (fun g => ?_) | refine GL.no ?_) | ((with_reducible show G _ _ _ (Item.code (Code.cond _ _ _) :: _) _ _ _); first | refine G.condT rfl ?_ | refine G.condF rfl ?_ | refine G.condYes rfl (by omega) ?_ | refine G.condNo rfl (by omega) ?_) | (with_reducible refine G.exit rfl ?_))
    refine G.retS (h' := []) (v := .tuple #[tabZ.v, .int .i64 2]) ok (resNc1 rfl rfl rfl rfl rfl (by (repeat (first | exact List.Mem.head _ | apply List.Mem.tail)))) .nil ?_
    exact ⟨tabZ, 2, rfl, .inl ⟨fun h => hkb h.okb, rfl, rfl, rfl, rfl⟩, tabZ_laid s, rfl⟩
  have q0 := hka.st
  have q1 := hka.se
  have q2 := hka.en
  have q3 := hka.len
  have r0 := hkb.st
  have r1 := hkb.se
  have r2 := hkb.en
  have r3 := hkb.len
  have hat0 := icells_geti (l := a.l) (x := 0) (i := 0) rfl (by omega)
  have hat1 := icells_geti (l := a.l) (x := (a.h.n : Int) - 1) (i := a.h.n - 1) (by omega) (by omega)
  by_cases h1 : nth a.l 0 < b.st
  · (first | refine GD.p 6 (lay 30 127) ?_ | refine GD.no 6 (lay 30 127) ?_ | refine GD.pK 6 (lay 30 127) ?_); (first | refine GD.p 7 (lay 30 255) ?_ | refine GD.no 7 (lay 30 255) ?_ | refine GD.pK 7 (lay 30 255) ?_); (first | refine GD.p 8 (lay 30 511) ?_ | refine GD.no 8 (lay 30 511) ?_ | refine GD.pK 8 (lay 30 511) ?_); (first | refine GD.p 9 (lay 30 1023) ?_ | refine GD.no 9 (lay 30 1023) ?_ | refine GD.pK 9 (lay 30 1023) ?_); (first | refine GD.p 10 (lay 30 2047) ?_ | refine GD.no 10 (lay 30 2047) ?_ | refine GD.pK 10 (lay 30 2047) ?_); (first | refine GD.p 11 (lay 30 4095) ?_ | refine GD.no 11 (lay 30 4095) ?_ | refine GD.pK 11 (lay 30 4095) ?_); (first | refine GD.p 12 (lay 30 8191) ?_ | refine GD.no 12 (lay 30 8191) ?_ | refine GD.pK 12 (lay 30 8191) ?_); (first | refine GD.p 13 (lay 30 16383) ?_ | refine GD.no 13 (lay 30 16383) ?_ | refine GD.pK 13 (lay 30 16383) ?_); (first | refine GD.p 14 (lay 30 32767) ?_ | refine GD.no 14 (lay 30 32767) ?_ | refine GD.pK 14 (lay 30 32767) ?_); (first | refine GD.p 15 (lay 30 65535) ?_ | refine GD.no 15 (lay 30 65535) ?_ | refine GD.pK 15 (lay 30 65535) ?_); (first | refine GD.p 16 (lay 30 131071) ?_ | refine GD.no 16 (lay 30 131071) ?_ | refine GD.pK 16 (lay 30 131071) ?_); (first | refine GD.p 17 (lay 30 262143) ?_ | refine GD.no 17 (lay 30 262143) ?_ | refine GD.pK 17 (lay 30 262143) ?_); (first | refine GD.p 18 (lay 30 524287) ?_ | refine GD.no 18 (lay 30 524287) ?_ | refine GD.pK 18 (lay 30 524287) ?_); (first | refine GD.p 19 (lay 30 1048575) ?_ | refine GD.no 19 (lay 30 1048575) ?_ | refine GD.pK 19 (lay 30 1048575) ?_); (first | refine GD.p 20 (lay 30 2097151) ?_ | refine GD.no 20 (lay 30 2097151) ?_ | refine GD.pK 20 (lay 30 2097151) ?_); (first | refine GD.p 21 (lay 30 4194303) ?_ | refine GD.no 21 (lay 30 4194303) ?_ | refine GD.pK 21 (lay 30 4194303) ?_); (first | refine GD.p 22 (lay 30 8388607) ?_ | refine GD.no 22 (lay 30 8388607) ?_ | refine GD.pK 22 (lay 30 8388607) ?_); (first | refine GD.p 23 (lay 30 16777215) ?_ | refine GD.no 23 (lay 30 16777215) ?_ | refine GD.pK 23 (lay 30 16777215) ?_); (first | refine GD.p 24 (lay 30 33554431) ?_ | refine GD.no 24 (lay 30 33554431) ?_ | refine GD.pK 24 (lay 30 33554431) ?_); (first | refine GD.p 25 (lay 30 67108863) ?_ | refine GD.no 25 (lay 30 67108863) ?_ | refine GD.pK 25 (lay 30 67108863) ?_); (first | refine GD.p 26 (lay 30 134217727) ?_ | refine GD.no 26 (lay 30 134217727) ?_ | refine GD.pK 26 (lay 30 134217727) ?_); (first | refine GD.p 27 (lay 30 268435455) ?_ | refine GD.no 27 (lay 30 268435455) ?_ | refine GD.pK 27 (lay 30 268435455) ?_); (first | refine GD.p 28 (lay 30 536870911) ?_ | refine GD.no 28 (lay 30 536870911) ?_ | refine GD.pK 28 (lay 30 536870911) ?_); (first | refine GD.p 29 (lay 30 1073741823) ?_ | refine GD.no 29 (lay 30 1073741823) ?_ | refine GD.pK 29 (lay 30 1073741823) ?_)
    refine GD.nil ?_
    repeat (first | (with_reducible first | refine GL.nil ?_ | refine G.region ?_ | refine G.seq ?_ | refine G.skip ?_ | refine G.block ?_ | refine G.inBlock ?_ | refine G.label ?_) | ((with_reducible show GL _ _ _ _ (_ :: _) _ _ _ _); first | refine GL.p ?_ | refine GL.pK ?_ | refine GL.store ?_ | refine GL.storeN ?_ | refine GL.boxA (fun g => ?_) | refine GL.box1 (fun g => ?_) | refine GL.alloc1 rfl (fun g => ?_) | refine GL.allocA (fun g => ?_) | refine GL.no ?_) | ((with_reducible show G _ _ _ (Item.code (Code.cond _ _ _) :: _) _ _ _); first | refine G.condT rfl ?_ | refine G.condF rfl ?_ | refine G.condYes rfl (by omega) ?_ | refine G.condNo rfl (by omega) ?_) | (with_reducible refine G.exit rfl ?_))
    refine G.retS (h' := []) (v := .tuple #[tabZ.v, .int .i64 2]) ok (resNc1 rfl rfl rfl rfl rfl (by (repeat (first | exact List.Mem.head _ | apply List.Mem.tail)))) .nil ?_
    exact ⟨tabZ, 2, rfl, .inl ⟨fun h => by have := (h.inr 0 (by omega)).1; omega, rfl, rfl, rfl, rfl⟩, tabZ_laid s, rfl⟩
  by_cases h2 : b.en < nth a.l (a.h.n - 1)
  · (first | refine GD.p 6 (lay 30 127) ?_ | refine GD.no 6 (lay 30 127) ?_ | refine GD.pK 6 (lay 30 127) ?_); (first | refine GD.p 7 (lay 30 255) ?_ | refine GD.no 7 (lay 30 255) ?_ | refine GD.pK 7 (lay 30 255) ?_); (first | refine GD.p 8 (lay 30 511) ?_ | refine GD.no 8 (lay 30 511) ?_ | refine GD.pK 8 (lay 30 511) ?_); (first | refine GD.p 9 (lay 30 1023) ?_ | refine GD.no 9 (lay 30 1023) ?_ | refine GD.pK 9 (lay 30 1023) ?_); (first | refine GD.p 10 (lay 30 2047) ?_ | refine GD.no 10 (lay 30 2047) ?_ | refine GD.pK 10 (lay 30 2047) ?_); (first | refine GD.p 11 (lay 30 4095) ?_ | refine GD.no 11 (lay 30 4095) ?_ | refine GD.pK 11 (lay 30 4095) ?_); (first | refine GD.p 12 (lay 30 8191) ?_ | refine GD.no 12 (lay 30 8191) ?_ | refine GD.pK 12 (lay 30 8191) ?_); (first | refine GD.p 13 (lay 30 16383) ?_ | refine GD.no 13 (lay 30 16383) ?_ | refine GD.pK 13 (lay 30 16383) ?_); (first | refine GD.p 14 (lay 30 32767) ?_ | refine GD.no 14 (lay 30 32767) ?_ | refine GD.pK 14 (lay 30 32767) ?_); (first | refine GD.p 15 (lay 30 65535) ?_ | refine GD.no 15 (lay 30 65535) ?_ | refine GD.pK 15 (lay 30 65535) ?_); (first | refine GD.p 16 (lay 30 131071) ?_ | refine GD.no 16 (lay 30 131071) ?_ | refine GD.pK 16 (lay 30 131071) ?_); (first | refine GD.p 17 (lay 30 262143) ?_ | refine GD.no 17 (lay 30 262143) ?_ | refine GD.pK 17 (lay 30 262143) ?_); (first | refine GD.p 18 (lay 30 524287) ?_ | refine GD.no 18 (lay 30 524287) ?_ | refine GD.pK 18 (lay 30 524287) ?_); (first | refine GD.p 19 (lay 30 1048575) ?_ | refine GD.no 19 (lay 30 1048575) ?_ | refine GD.pK 19 (lay 30 1048575) ?_); (first | refine GD.p 20 (lay 30 2097151) ?_ | refine GD.no 20 (lay 30 2097151) ?_ | refine GD.pK 20 (lay 30 2097151) ?_); (first | refine GD.p 21 (lay 30 4194303) ?_ | refine GD.no 21 (lay 30 4194303) ?_ | refine GD.pK 21 (lay 30 4194303) ?_); (first | refine GD.p 22 (lay 30 8388607) ?_ | refine GD.no 22 (lay 30 8388607) ?_ | refine GD.pK 22 (lay 30 8388607) ?_); (first | refine GD.p 23 (lay 30 16777215) ?_ | refine GD.no 23 (lay 30 16777215) ?_ | refine GD.pK 23 (lay 30 16777215) ?_); (first | refine GD.p 24 (lay 30 33554431) ?_ | refine GD.no 24 (lay 30 33554431) ?_ | refine GD.pK 24 (lay 30 33554431) ?_); (first | refine GD.p 25 (lay 30 67108863) ?_ | refine GD.no 25 (lay 30 67108863) ?_ | refine GD.pK 25 (lay 30 67108863) ?_); (first | refine GD.p 26 (lay 30 134217727) ?_ | refine GD.no 26 (lay 30 134217727) ?_ | refine GD.pK 26 (lay 30 134217727) ?_); (first | refine GD.p 27 (lay 30 268435455) ?_ | refine GD.no 27 (lay 30 268435455) ?_ | refine GD.pK 27 (lay 30 268435455) ?_); (first | refine GD.p 28 (lay 30 536870911) ?_ | refine GD.no 28 (lay 30 536870911) ?_ | refine GD.pK 28 (lay 30 536870911) ?_); (first | refine GD.p 29 (lay 30 1073741823) ?_ | refine GD.no 29 (lay 30 1073741823) ?_ | refine GD.pK 29 (lay 30 1073741823) ?_)
    refine GD.nil ?_
    repeat (first | (with_reducible first | refine GL.nil ?_ | refine G.region ?_ | refine G.seq ?_ | refine G.skip ?_ | refine G.block ?_ | refine G.inBlock ?_ | refine G.label ?_) | ((with_reducible show GL _ _ _ _ (_ :: _) _ _ _ _); first | refine GL.p ?_ | refine GL.pK ?_ | refine GL.store ?_ | refine GL.storeN ?_ | refine GL.boxA (fun g => ?_) | refine GL.box1 (fun g => ?_) | refine GL.alloc1 rfl (fun g => ?_) | refine GL.allocA (fun g => ?_) | refine GL.no ?_) | ((with_reducible show G _ _ _ (Item.code (Code.cond _ _ _) :: _) _ _ _); first | refine G.condT rfl ?_ | refine G.condF rfl ?_ | refine G.condYes rfl (by omega) ?_ | refine G.condNo rfl (by omega) ?_) | (with_reducible refine G.exit rfl ?_))
    refine G.retS (h' := []) (v := .tuple #[tabZ.v, .int .i64 2]) ok (resNc1 rfl rfl rfl rfl rfl (by (repeat (first | exact List.Mem.head _ | apply List.Mem.tail)))) .nil ?_
    exact ⟨tabZ, 2, rfl, .inl ⟨fun h => by have := (h.inr (a.h.n - 1) (by omega)).2; omega, rfl, rfl, rfl, rfl⟩, tabZ_laid s, rfl⟩
  have hin : ∀ i, i < a.h.n → b.st ≤ nth a.l i ∧ nth a.l i ≤ b.en := fun i hi => by
    have h3 := up_mono hka.up (Nat.zero_le i) hi
    have h4 := up_mono hka.up (i := i) (j := a.h.n - 1) (by omega) (by omega)
    exact ⟨by omega, by omega⟩
  (first | refine GD.p 6 (lay 30 127) ?_ | refine GD.no 6 (lay 30 127) ?_ | refine GD.pK 6 (lay 30 127) ?_); (first | refine GD.p 7 (lay 30 255) ?_ | refine GD.no 7 (lay 30 255) ?_ | refine GD.pK 7 (lay 30 255) ?_); (first | refine GD.p 8 (lay 30 511) ?_ | refine GD.no 8 (lay 30 511) ?_ | refine GD.pK 8 (lay 30 511) ?_); (first | refine GD.p 9 (lay 30 1023) ?_ | refine GD.no 9 (lay 30 1023) ?_ | refine GD.pK 9 (lay 30 1023) ?_); (first | refine GD.p 10 (lay 30 2047) ?_ | refine GD.no 10 (lay 30 2047) ?_ | refine GD.pK 10 (lay 30 2047) ?_); (first | refine GD.p 11 (lay 30 4095) ?_ | refine GD.no 11 (lay 30 4095) ?_ | refine GD.pK 11 (lay 30 4095) ?_); (first | refine GD.p 12 (lay 30 8191) ?_ | refine GD.no 12 (lay 30 8191) ?_ | refine GD.pK 12 (lay 30 8191) ?_); (first | refine GD.p 13 (lay 30 16383) ?_ | refine GD.no 13 (lay 30 16383) ?_ | refine GD.pK 13 (lay 30 16383) ?_); (first | refine GD.p 14 (lay 30 32767) ?_ | refine GD.no 14 (lay 30 32767) ?_ | refine GD.pK 14 (lay 30 32767) ?_); (first | refine GD.p 15 (lay 30 65535) ?_ | refine GD.no 15 (lay 30 65535) ?_ | refine GD.pK 15 (lay 30 65535) ?_); (first | refine GD.p 16 (lay 30 131071) ?_ | refine GD.no 16 (lay 30 131071) ?_ | refine GD.pK 16 (lay 30 131071) ?_); (first | refine GD.p 17 (lay 30 262143) ?_ | refine GD.no 17 (lay 30 262143) ?_ | refine GD.pK 17 (lay 30 262143) ?_); (first | refine GD.p 18 (lay 30 524287) ?_ | refine GD.no 18 (lay 30 524287) ?_ | refine GD.pK 18 (lay 30 524287) ?_); (first | refine GD.p 19 (lay 30 1048575) ?_ | refine GD.no 19 (lay 30 1048575) ?_ | refine GD.pK 19 (lay 30 1048575) ?_); (first | refine GD.p 20 (lay 30 2097151) ?_ | refine GD.no 20 (lay 30 2097151) ?_ | refine GD.pK 20 (lay 30 2097151) ?_); (first | refine GD.p 21 (lay 30 4194303) ?_ | refine GD.no 21 (lay 30 4194303) ?_ | refine GD.pK 21 (lay 30 4194303) ?_); (first | refine GD.p 22 (lay 30 8388607) ?_ | refine GD.no 22 (lay 30 8388607) ?_ | refine GD.pK 22 (lay 30 8388607) ?_); (first | refine GD.p 23 (lay 30 16777215) ?_ | refine GD.no 23 (lay 30 16777215) ?_ | refine GD.pK 23 (lay 30 16777215) ?_); (first | refine GD.p 24 (lay 30 33554431) ?_ | refine GD.no 24 (lay 30 33554431) ?_ | refine GD.pK 24 (lay 30 33554431) ?_); (first | refine GD.p 25 (lay 30 67108863) ?_ | refine GD.no 25 (lay 30 67108863) ?_ | refine GD.pK 25 (lay 30 67108863) ?_); (first | refine GD.p 26 (lay 30 134217727) ?_ | refine GD.no 26 (lay 30 134217727) ?_ | refine GD.pK 26 (lay 30 134217727) ?_); (first | refine GD.p 27 (lay 30 268435455) ?_ | refine GD.no 27 (lay 30 268435455) ?_ | refine GD.pK 27 (lay 30 268435455) ?_); (first | refine GD.p 28 (lay 30 536870911) ?_ | refine GD.no 28 (lay 30 536870911) ?_ | refine GD.pK 28 (lay 30 536870911) ?_); (first | refine GD.p 29 (lay 30 1073741823) ?_ | refine GD.no 29 (lay 30 1073741823) ?_ | refine GD.pK 29 (lay 30 1073741823) ?_)
  refine GD.nil ?_
  repeat (first | (with_reducible first | refine GL.nil ?_ | refine G.region ?_ | refine G.seq ?_ | refine G.skip ?_ | refine G.block ?_ | refine G.inBlock ?_ | refine G.label ?_) | ((with_reducible show GL _ _ _ _ (_ :: _) _ _ _ _); first | refine GL.p ?_ | refine GL.pK ?_ | refine GL.store ?_ | refine GL.storeN ?_ | refine GL.boxA (fun g => ?_) | refine GL.box1 (fun g => ?_) | refine GL.alloc1 rfl (fun g => ?_) | refine GL.allocA (fun g => ?_) | refine GL.no ?_) | ((with_reducible show G _ _ _ (Item.code (Code.cond _ _ _) :: _) _ _ _); first | refine G.condT rfl ?_ | refine G.condF rfl ?_ | refine G.condYes rfl (by omega) ?_ | refine G.condNo rfl (by omega) ?_) | (with_reducible refine G.exit rfl ?_))
  refine G.draw (m := 10) [tabE g2 a, tabE g3 b, tabE g tabZ] [9] (lay 10 0) follows_mixed rfl (by kernel_rfl) (by (first | exact Split.refl _ | ((try dsimp only); repeat (first | exact Split.nil | (apply Split.cons; (repeat (first | exact Pick.head | apply Pick.tail))))))) ?_
  (first | refine GD.p 0 (lay 10 1) ?_ | refine GD.no 0 (lay 10 1) ?_ | refine GD.pK 0 (lay 10 1) ?_); (first | refine GD.p 1 (lay 10 3) ?_ | refine GD.no 1 (lay 10 3) ?_ | refine GD.pK 1 (lay 10 3) ?_); (first | refine GD.p 2 (lay 10 7) ?_ | refine GD.no 2 (lay 10 7) ?_ | refine GD.pK 2 (lay 10 7) ?_); (first | refine GD.p 3 (lay 10 15) ?_ | refine GD.no 3 (lay 10 15) ?_ | refine GD.pK 3 (lay 10 15) ?_); (first | refine GD.p 4 (lay 10 31) ?_ | refine GD.no 4 (lay 10 31) ?_ | refine GD.pK 4 (lay 10 31) ?_); (first | refine GD.p 5 (lay 10 63) ?_ | refine GD.no 5 (lay 10 63) ?_ | refine GD.pK 5 (lay 10 63) ?_)
  refine GD.two (i := 6) (j := 8) (lay 10 127) (lay 10 319) rfl rfl (by kernel_rfl) (by simp) (by simp) ?_ ?_
  · refine GO.call rfl rfl (clone_calls a.h.A a.h.n a.h.c a.l s ha (by omega) (by omega)) .nil (fun v s1 h1' hq hle3 => ?_) (fun v s1 h1' hq => ?_)
    rotate_left
    · obtain ⟨A', c', e1, rfl⟩ := hq
      exact ⟨_, .cons (.tail (.tail (.tail .head))) (.cons (.tail (.tail .head)) (.cons (.tail .head) .nil))⟩
    obtain ⟨A', c', e1, rfl⟩ := hq
    cases e1
    (first | refine GD.p 7 (lay 10 255) ?_ | refine GD.no 7 (lay 10 255) ?_ | refine GD.pK 7 (lay 10 255) ?_)
    refine GD.allocA 8 (lay 10 511) rfl rfl fun g6 => ?_
    refine GD.re 47 (.agg [.int .i64 a.st, .int .i64 a.en, .slice A' a.h.n c'].toArray) ?_
    refine GD.storeN 9 (lay 10 1023) ?_
    refine GD.nil ?_
    have hcl := hle3
    repeat (first | (with_reducible first | refine GL.nil ?_ | refine G.region ?_ | refine G.seq ?_ | refine G.skip ?_ | refine G.block ?_ | refine G.inBlock ?_ | refine G.label ?_) | ((with_reducible show GL _ _ _ _ (_ :: _) _ _ _ _); first | refine GL.p ?_ | refine GL.pK ?_ | refine GL.store ?_ | refine GL.storeN ?_ | refine GL.boxA (fun g => ?_) | refine GL.box1 (fun g => ?_) | refine GL.alloc1 rfl (fun g => ?_) | refine GL.allocA (fun g => ?_) | refine GL.no ?_) | ((with_reducible show G _ _ _ (Item.code (Code.cond _ _ _) :: _) _ _ _); first | refine G.condT rfl ?_ | refine G.condF rfl ?_ | refine G.condYes rfl (by omega) ?_ | refine G.condNo rfl (by omega) ?_) | (with_reducible refine G.exit rfl ?_))
    refine G.bufAt (by (repeat (first | exact Pick.head | apply Pick.tail))) (by omega) fun gb hA hnc => ?_
    subst hA
    refine G.loop (fun i : Nat => [(2, .pointer (some ⟨g2, 0, none⟩)), (3, .pointer (some ⟨g3, 0, none⟩)), (4, .pointer (some ⟨g, 0, none⟩)), (6, .pointer (some ⟨g6, 0, none⟩)), (49, .slice (some ⟨gb, 0, none⟩) a.h.n c'), (50, .int .i64 a.h.n), (51, .int .i64 i)])
      (fun i => [tabE g2 a, tabE g3 b, tabE g tabZ, tabE g6 ⟨a.st, a.en, ⟨some ⟨gb, 0, none⟩, a.h.n, c'⟩, []⟩, .buf (.slice (some ⟨gb, 0, none⟩) a.h.n c') 3 1 a.h.n (icells ((jl a b).take i ++ a.l.drop i))]) (fun i s' => s' = s1 ∧ i ≤ a.h.n) (fun i => a.h.n - i) 0 (by ((repeat' (first | exact trivial | refine And.intro ?_ ?_)); all_goals (first | (refine congrArg some (congrArg (Value.int _) ?_); (try dsimp only); omega) | exact rfl))) (by (first | exact Split.refl _ | ((try dsimp only); repeat (first | exact Split.nil | (apply Split.cons; (repeat (first | exact Pick.head | apply Pick.tail))))))) ⟨rfl, Nat.zero_le _⟩ ?_
    rintro i s2 ⟨rfl, hi⟩ ih
    try dsimp only
    have hjl := jl_length a b
    by_cases hlt : (i : Int) < a.h.n
    · have hload := loadsBuf ((jl a b).take i ++ a.l.drop i) i (by simp; omega)
      rw [mix_nth _ _ _ (by omega) (by omega)] at hload
      have hbt := icells_geti (l := b.l) (x := nth a.l i - b.st) (i := (nth a.l i - b.st).toNat) rfl (by have := hin i (by omega); omega)
      have hb2 := hb.le hcl
      have hset : (icells ((jl a b).take i ++ a.l.drop i)).set (0 + (i : Int).toNat * 1) (.int .i64 (nth b.l (nth a.l i - b.st).toNat)) = icells ((jl a b).take (i + 1) ++ a.l.drop (i + 1)) := by
        rw [Nat.zero_add, Int.toNat_natCast, Nat.mul_one, icells_set, ← mix_set (jl a b) a.l i (by omega) (by omega), nth_of (l := jl a b) (by omega), jl_nth a b i (by omega)]
      have hbr := hin i (by omega)
      repeat (first | (with_reducible first | refine GL.nil ?_ | refine G.region ?_ | refine G.seq ?_ | refine G.skip ?_ | refine G.block ?_ | refine G.inBlock ?_ | refine G.label ?_) | ((with_reducible show GL _ _ _ _ (_ :: _) _ _ _ _); first | refine GL.p ?_ | refine GL.pK ?_ | refine GL.store ?_ | refine GL.storeN ?_ | refine GL.boxA (fun g => ?_) | refine GL.box1 (fun g => ?_) | refine GL.alloc1 rfl (fun g => ?_) | refine GL.allocA (fun g => ?_) | refine GL.no ?_) | ((with_reducible show G _ _ _ (Item.code (Code.cond _ _ _) :: _) _ _ _); first | refine G.condT rfl ?_ | refine G.condF rfl ?_ | refine G.condYes rfl (by omega) ?_ | refine G.condNo rfl (by omega) ?_) | (with_reducible refine G.exit rfl ?_))
      refine GL.p (he := PEv.indexP rfl rfl rfl (by omega) (by omega)) ?_
      rw [add_blk]
      refine GL.p (he := PEv.loadBuf rfl rfl rfl (by (repeat (first | exact List.Mem.head _ | apply List.Mem.tail))) hload) ?_
      repeat (first | (with_reducible first | refine GL.nil ?_ | refine G.region ?_ | refine G.seq ?_ | refine G.skip ?_ | refine G.block ?_ | refine G.inBlock ?_ | refine G.label ?_) | ((with_reducible show GL _ _ _ _ (_ :: _) _ _ _ _); first | refine GL.p ?_ | refine GL.pK ?_ | refine GL.store ?_ | refine GL.storeN ?_ | refine GL.boxA (fun g => ?_) | refine GL.box1 (fun g => ?_) | refine GL.alloc1 rfl (fun g => ?_) | refine GL.allocA (fun g => ?_) | refine GL.no ?_) | ((with_reducible show G _ _ _ (Item.code (Code.cond _ _ _) :: _) _ _ _); first | refine G.condT rfl ?_ | refine G.condF rfl ?_ | refine G.condYes rfl (by omega) ?_ | refine G.condNo rfl (by omega) ?_) | (with_reducible refine G.exit rfl ?_))
      refine G.draw (m := 13) [tabE g2 a, tabE g3 b, tabE g tabZ, tabE g6 ⟨a.st, a.en, ⟨some ⟨gb, 0, none⟩, a.h.n, c'⟩, []⟩] [12] (lay 13 0) follows_mixed rfl (by kernel_rfl) (by (first | exact Split.refl _ | ((try dsimp only); repeat (first | exact Split.nil | (apply Split.cons; (repeat (first | exact Pick.head | apply Pick.tail))))))) ?_
      (first | refine GD.p 0 (lay 13 1) ?_ | refine GD.no 0 (lay 13 1) ?_ | refine GD.pK 0 (lay 13 1) ?_); (first | refine GD.p 1 (lay 13 3) ?_ | refine GD.no 1 (lay 13 3) ?_ | refine GD.pK 1 (lay 13 3) ?_); (first | refine GD.p 2 (lay 13 7) ?_ | refine GD.no 2 (lay 13 7) ?_ | refine GD.pK 2 (lay 13 7) ?_); (first | refine GD.p 3 (lay 13 15) ?_ | refine GD.no 3 (lay 13 15) ?_ | refine GD.pK 3 (lay 13 15) ?_); (first | refine GD.p 4 (lay 13 31) ?_ | refine GD.no 4 (lay 13 31) ?_ | refine GD.pK 4 (lay 13 31) ?_); (first | refine GD.p 5 (lay 13 63) ?_ | refine GD.no 5 (lay 13 63) ?_ | refine GD.pK 5 (lay 13 63) ?_); (first | refine GD.p 6 (lay 13 127) ?_ | refine GD.no 6 (lay 13 127) ?_ | refine GD.pK 6 (lay 13 127) ?_); (first | refine GD.p 7 (lay 13 255) ?_ | refine GD.no 7 (lay 13 255) ?_ | refine GD.pK 7 (lay 13 255) ?_); (first | refine GD.p 8 (lay 13 511) ?_ | refine GD.no 8 (lay 13 511) ?_ | refine GD.pK 8 (lay 13 511) ?_); (first | refine GD.p 9 (lay 13 1023) ?_ | refine GD.no 9 (lay 13 1023) ?_ | refine GD.pK 9 (lay 13 1023) ?_); (first | refine GD.p 10 (lay 13 2047) ?_ | refine GD.no 10 (lay 13 2047) ?_ | refine GD.pK 10 (lay 13 2047) ?_)
      refine GD.p (he := PEv.indexP rfl rfl rfl (by omega) (by omega)) 11 (lay 13 4095) ?_
      rw [add_blk]
      refine GD.storeBuf 12 (lay 13 8191) rfl rfl ?_ ?_
      · rw [fm_len icells_len]
        simp
        omega
      rw [hset]
      refine GD.nil ?_
      repeat (first | (with_reducible first | refine GL.nil ?_ | refine G.region ?_ | refine G.seq ?_ | refine G.skip ?_ | refine G.block ?_ | refine G.inBlock ?_ | refine G.label ?_) | ((with_reducible show GL _ _ _ _ (_ :: _) _ _ _ _); first | refine GL.p ?_ | refine GL.pK ?_ | refine GL.store ?_ | refine GL.storeN ?_ | refine GL.boxA (fun g => ?_) | refine GL.box1 (fun g => ?_) | refine GL.alloc1 rfl (fun g => ?_) | refine GL.allocA (fun g => ?_) | refine GL.no ?_) | ((with_reducible show G _ _ _ (Item.code (Code.cond _ _ _) :: _) _ _ _); first | refine G.condT rfl ?_ | refine G.condF rfl ?_ | refine G.condYes rfl (by omega) ?_ | refine G.condNo rfl (by omega) ?_) | (with_reducible refine G.exit rfl ?_))
      refine ih (i + 1) _ _ _ _ (by ((repeat' (first | exact trivial | refine And.intro ?_ ?_)); all_goals (first | (refine congrArg some (congrArg (Value.int _) ?_); (try dsimp only); omega) | exact rfl))) (by (first | exact Split.refl _ | ((try dsimp only); repeat (first | exact Split.nil | (apply Split.cons; (repeat (first | exact Pick.head | apply Pick.tail))))))) ⟨rfl, by omega⟩ (by omega)
    · obtain rfl : i = a.h.n := by omega
      repeat (first | (with_reducible first | refine GL.nil ?_ | refine G.region ?_ | refine G.seq ?_ | refine G.skip ?_ | refine G.block ?_ | refine G.inBlock ?_ | refine G.label ?_) | ((with_reducible show GL _ _ _ _ (_ :: _) _ _ _ _); first | refine GL.p ?_ | refine GL.pK ?_ | refine GL.store ?_ | refine GL.storeN ?_ | refine GL.boxA (fun g => ?_) | refine GL.box1 (fun g => ?_) | refine GL.alloc1 rfl (fun g => ?_) | refine GL.allocA (fun g => ?_) | refine GL.no ?_) | ((with_reducible show G _ _ _ (Item.code (Code.cond _ _ _) :: _) _ _ _); first | refine G.condT rfl ?_ | refine G.condF rfl ?_ | refine G.condYes rfl (by omega) ?_ | refine G.condNo rfl (by omega) ?_) | (with_reducible refine G.exit rfl ?_))
      refine G.freezeBuf (by (repeat (first | exact Pick.head | apply Pick.tail))) fun s3 hle4 hs3 => ?_
      rw [List.take_of_length_le (by omega), List.drop_of_length_le (by omega), List.append_nil] at hs3
      refine G.retS (h' := []) (v := .tuple #[TabD.v ⟨a.st, a.en, ⟨some ⟨gb, 0, none⟩, a.h.n, c'⟩, jl a b⟩, .int .i64 0]) ok (resNc1 rfl rfl rfl rfl rfl (by (repeat (first | exact List.Mem.head _ | apply List.Mem.tail)))) .nil ?_
      exact ⟨⟨a.st, a.en, ⟨some ⟨gb, 0, none⟩, a.h.n, c'⟩, jl a b⟩, 0, rfl, .inr ⟨⟨hka, hkb, hin⟩, rfl, rfl, rfl, rfl⟩, hs3, rfl⟩
  · refine GO.allocA (t := 33) (c := [.int .i64 0, .int .i64 0, .slice none 0 0]) rfl ?_ (hkeep := .cons (.tail (.tail .head)) (.cons (.tail .head) (.cons .head .nil)))
    intro g6
    refine GD.call 6 (lay 10 383) rfl rfl rfl (clone_calls a.h.A a.h.n a.h.c a.l s ha (by omega) (by omega)) .nil (fun v s1 h1' hq hle3 => ?_) (fun v s1 h1' hq => ?_)
    rotate_left
    · obtain ⟨A', c', e1, rfl⟩ := hq
      exact ⟨_, .cons (.tail (.tail (.tail (.tail .head)))) (.cons (.tail (.tail (.tail .head))) (.cons (.tail (.tail .head)) .nil))⟩
    obtain ⟨A', c', e1, rfl⟩ := hq
    cases e1
    (first | refine GD.p 7 (lay 10 511) ?_ | refine GD.no 7 (lay 10 511) ?_ | refine GD.pK 7 (lay 10 511) ?_)
    refine GD.re 47 (.agg [.int .i64 a.st, .int .i64 a.en, .slice A' a.h.n c'].toArray) ?_
    refine GD.storeN 9 (lay 10 1023) ?_
    refine GD.nil ?_
    have hcl := hle3
    repeat (first | (with_reducible first | refine GL.nil ?_ | refine G.region ?_ | refine G.seq ?_ | refine G.skip ?_ | refine G.block ?_ | refine G.inBlock ?_ | refine G.label ?_) | ((with_reducible show GL _ _ _ _ (_ :: _) _ _ _ _); first | refine GL.p ?_ | refine GL.pK ?_ | refine GL.store ?_ | refine GL.storeN ?_ | refine GL.boxA (fun g => ?_) | refine GL.box1 (fun g => ?_) | refine GL.alloc1 rfl (fun g => ?_) | refine GL.allocA (fun g => ?_) | refine GL.no ?_) | ((with_reducible show G _ _ _ (Item.code (Code.cond _ _ _) :: _) _ _ _); first | refine G.condT rfl ?_ | refine G.condF rfl ?_ | refine G.condYes rfl (by omega) ?_ | refine G.condNo rfl (by omega) ?_) | (with_reducible refine G.exit rfl ?_))
    refine G.bufAt (by (repeat (first | exact Pick.head | apply Pick.tail))) (by omega) fun gb hA hnc => ?_
    subst hA
    refine G.loop (fun i : Nat => [(2, .pointer (some ⟨g2, 0, none⟩)), (3, .pointer (some ⟨g3, 0, none⟩)), (4, .pointer (some ⟨g, 0, none⟩)), (6, .pointer (some ⟨g6, 0, none⟩)), (49, .slice (some ⟨gb, 0, none⟩) a.h.n c'), (50, .int .i64 a.h.n), (51, .int .i64 i)])
      (fun i => [tabE g2 a, tabE g3 b, tabE g tabZ, tabE g6 ⟨a.st, a.en, ⟨some ⟨gb, 0, none⟩, a.h.n, c'⟩, []⟩, .buf (.slice (some ⟨gb, 0, none⟩) a.h.n c') 3 1 a.h.n (icells ((jl a b).take i ++ a.l.drop i))]) (fun i s' => s' = s1 ∧ i ≤ a.h.n) (fun i => a.h.n - i) 0 (by ((repeat' (first | exact trivial | refine And.intro ?_ ?_)); all_goals (first | (refine congrArg some (congrArg (Value.int _) ?_); (try dsimp only); omega) | exact rfl))) (by (first | exact Split.refl _ | ((try dsimp only); repeat (first | exact Split.nil | (apply Split.cons; (repeat (first | exact Pick.head | apply Pick.tail))))))) ⟨rfl, Nat.zero_le _⟩ ?_
    rintro i s2 ⟨rfl, hi⟩ ih
    try dsimp only
    have hjl := jl_length a b
    by_cases hlt : (i : Int) < a.h.n
    · have hload := loadsBuf ((jl a b).take i ++ a.l.drop i) i (by simp; omega)
      rw [mix_nth _ _ _ (by omega) (by omega)] at hload
      have hbt := icells_geti (l := b.l) (x := nth a.l i - b.st) (i := (nth a.l i - b.st).toNat) rfl (by have := hin i (by omega); omega)
      have hb2 := hb.le hcl
      have hset : (icells ((jl a b).take i ++ a.l.drop i)).set (0 + (i : Int).toNat * 1) (.int .i64 (nth b.l (nth a.l i - b.st).toNat)) = icells ((jl a b).take (i + 1) ++ a.l.drop (i + 1)) := by
        rw [Nat.zero_add, Int.toNat_natCast, Nat.mul_one, icells_set, ← mix_set (jl a b) a.l i (by omega) (by omega), nth_of (l := jl a b) (by omega), jl_nth a b i (by omega)]
      have hbr := hin i (by omega)
      repeat (first | (with_reducible first | refine GL.nil ?_ | refine G.region ?_ | refine G.seq ?_ | refine G.skip ?_ | refine G.block ?_ | refine G.inBlock ?_ | refine G.label ?_) | ((with_reducible show GL _ _ _ _ (_ :: _) _ _ _ _); first | refine GL.p ?_ | refine GL.pK ?_ | refine GL.store ?_ | refine GL.storeN ?_ | refine GL.boxA (fun g => ?_) | refine GL.box1 (fun g => ?_) | refine GL.alloc1 rfl (fun g => ?_) | refine GL.allocA (fun g => ?_) | refine GL.no ?_) | ((with_reducible show G _ _ _ (Item.code (Code.cond _ _ _) :: _) _ _ _); first | refine G.condT rfl ?_ | refine G.condF rfl ?_ | refine G.condYes rfl (by omega) ?_ | refine G.condNo rfl (by omega) ?_) | (with_reducible refine G.exit rfl ?_))
      refine GL.p (he := PEv.indexP rfl rfl rfl (by omega) (by omega)) ?_
      rw [add_blk]
      refine GL.p (he := PEv.loadBuf rfl rfl rfl (by (repeat (first | exact List.Mem.head _ | apply List.Mem.tail))) hload) ?_
      repeat (first | (with_reducible first | refine GL.nil ?_ | refine G.region ?_ | refine G.seq ?_ | refine G.skip ?_ | refine G.block ?_ | refine G.inBlock ?_ | refine G.label ?_) | ((with_reducible show GL _ _ _ _ (_ :: _) _ _ _ _); first | refine GL.p ?_ | refine GL.pK ?_ | refine GL.store ?_ | refine GL.storeN ?_ | refine GL.boxA (fun g => ?_) | refine GL.box1 (fun g => ?_) | refine GL.alloc1 rfl (fun g => ?_) | refine GL.allocA (fun g => ?_) | refine GL.no ?_) | ((with_reducible show G _ _ _ (Item.code (Code.cond _ _ _) :: _) _ _ _); first | refine G.condT rfl ?_ | refine G.condF rfl ?_ | refine G.condYes rfl (by omega) ?_ | refine G.condNo rfl (by omega) ?_) | (with_reducible refine G.exit rfl ?_))
      refine G.draw (m := 13) [tabE g2 a, tabE g3 b, tabE g tabZ, tabE g6 ⟨a.st, a.en, ⟨some ⟨gb, 0, none⟩, a.h.n, c'⟩, []⟩] [12] (lay 13 0) follows_mixed rfl (by kernel_rfl) (by (first | exact Split.refl _ | ((try dsimp only); repeat (first | exact Split.nil | (apply Split.cons; (repeat (first | exact Pick.head | apply Pick.tail))))))) ?_
      (first | refine GD.p 0 (lay 13 1) ?_ | refine GD.no 0 (lay 13 1) ?_ | refine GD.pK 0 (lay 13 1) ?_); (first | refine GD.p 1 (lay 13 3) ?_ | refine GD.no 1 (lay 13 3) ?_ | refine GD.pK 1 (lay 13 3) ?_); (first | refine GD.p 2 (lay 13 7) ?_ | refine GD.no 2 (lay 13 7) ?_ | refine GD.pK 2 (lay 13 7) ?_); (first | refine GD.p 3 (lay 13 15) ?_ | refine GD.no 3 (lay 13 15) ?_ | refine GD.pK 3 (lay 13 15) ?_); (first | refine GD.p 4 (lay 13 31) ?_ | refine GD.no 4 (lay 13 31) ?_ | refine GD.pK 4 (lay 13 31) ?_); (first | refine GD.p 5 (lay 13 63) ?_ | refine GD.no 5 (lay 13 63) ?_ | refine GD.pK 5 (lay 13 63) ?_); (first | refine GD.p 6 (lay 13 127) ?_ | refine GD.no 6 (lay 13 127) ?_ | refine GD.pK 6 (lay 13 127) ?_); (first | refine GD.p 7 (lay 13 255) ?_ | refine GD.no 7 (lay 13 255) ?_ | refine GD.pK 7 (lay 13 255) ?_); (first | refine GD.p 8 (lay 13 511) ?_ | refine GD.no 8 (lay 13 511) ?_ | refine GD.pK 8 (lay 13 511) ?_); (first | refine GD.p 9 (lay 13 1023) ?_ | refine GD.no 9 (lay 13 1023) ?_ | refine GD.pK 9 (lay 13 1023) ?_); (first | refine GD.p 10 (lay 13 2047) ?_ | refine GD.no 10 (lay 13 2047) ?_ | refine GD.pK 10 (lay 13 2047) ?_)
      refine GD.p (he := PEv.indexP rfl rfl rfl (by omega) (by omega)) 11 (lay 13 4095) ?_
      rw [add_blk]
      refine GD.storeBuf 12 (lay 13 8191) rfl rfl ?_ ?_
      · rw [fm_len icells_len]
        simp
        omega
      rw [hset]
      refine GD.nil ?_
      repeat (first | (with_reducible first | refine GL.nil ?_ | refine G.region ?_ | refine G.seq ?_ | refine G.skip ?_ | refine G.block ?_ | refine G.inBlock ?_ | refine G.label ?_) | ((with_reducible show GL _ _ _ _ (_ :: _) _ _ _ _); first | refine GL.p ?_ | refine GL.pK ?_ | refine GL.store ?_ | refine GL.storeN ?_ | refine GL.boxA (fun g => ?_) | refine GL.box1 (fun g => ?_) | refine GL.alloc1 rfl (fun g => ?_) | refine GL.allocA (fun g => ?_) | refine GL.no ?_) | ((with_reducible show G _ _ _ (Item.code (Code.cond _ _ _) :: _) _ _ _); first | refine G.condT rfl ?_ | refine G.condF rfl ?_ | refine G.condYes rfl (by omega) ?_ | refine G.condNo rfl (by omega) ?_) | (with_reducible refine G.exit rfl ?_))
      refine ih (i + 1) _ _ _ _ (by ((repeat' (first | exact trivial | refine And.intro ?_ ?_)); all_goals (first | (refine congrArg some (congrArg (Value.int _) ?_); (try dsimp only); omega) | exact rfl))) (by (first | exact Split.refl _ | ((try dsimp only); repeat (first | exact Split.nil | (apply Split.cons; (repeat (first | exact Pick.head | apply Pick.tail))))))) ⟨rfl, by omega⟩ (by omega)
    · obtain rfl : i = a.h.n := by omega
      repeat (first | (with_reducible first | refine GL.nil ?_ | refine G.region ?_ | refine G.seq ?_ | refine G.skip ?_ | refine G.block ?_ | refine G.inBlock ?_ | refine G.label ?_) | ((with_reducible show GL _ _ _ _ (_ :: _) _ _ _ _); first | refine GL.p ?_ | refine GL.pK ?_ | refine GL.store ?_ | refine GL.storeN ?_ | refine GL.boxA (fun g => ?_) | refine GL.box1 (fun g => ?_) | refine GL.alloc1 rfl (fun g => ?_) | refine GL.allocA (fun g => ?_) | refine GL.no ?_) | ((with_reducible show G _ _ _ (Item.code (Code.cond _ _ _) :: _) _ _ _); first | refine G.condT rfl ?_ | refine G.condF rfl ?_ | refine G.condYes rfl (by omega) ?_ | refine G.condNo rfl (by omega) ?_) | (with_reducible refine G.exit rfl ?_))
      refine G.freezeBuf (by (repeat (first | exact Pick.head | apply Pick.tail))) fun s3 hle4 hs3 => ?_
      rw [List.take_of_length_le (by omega), List.drop_of_length_le (by omega), List.append_nil] at hs3
      refine G.retS (h' := []) (v := .tuple #[TabD.v ⟨a.st, a.en, ⟨some ⟨gb, 0, none⟩, a.h.n, c'⟩, jl a b⟩, .int .i64 0]) ok (resNc1 rfl rfl rfl rfl rfl (by (repeat (first | exact List.Mem.head _ | apply List.Mem.tail)))) .nil ?_
      exact ⟨⟨a.st, a.en, ⟨some ⟨gb, 0, none⟩, a.h.n, c'⟩, jl a b⟩, 0, rfl, .inr ⟨⟨hka, hkb, hin⟩, rfl, rfl, rfl, rfl⟩, hs3, rfl⟩
end Go.Proofs.Ytnndjobhcncanaa
