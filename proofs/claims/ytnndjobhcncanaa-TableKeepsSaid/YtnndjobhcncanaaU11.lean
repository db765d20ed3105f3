/- What the document says of two rows (law 23). No statement of the seat is proved here. -/
import Derived.Test.YtnndjobhcncanaaU10
namespace Go.Proofs.Ytnndjobhcncanaa
open Go.RowKit
section
variable {P : Program} {C : Ctx} {n : Nat} {k : List Item} {f : Fr} {s : Store} {h : List Ent} {ops : Array Oper} {os : List Oper} {o : Oper}
/-- A slice of some values, of one cell each. -/
theorem GL.litC {t e : TypeId} {m : Nat} {ps : List (Nat × Operand)} {vs : List (Nat × Value)} {cs : List Value} {z : Value} {b : Nat} {d : Tmp} [ut : UT P t (.slice e)] [it : IT P e z 1 b] (ho : o.op = .buildSlice t m ps.toArray) (hx : f.parts ps = some vs) (hl : cs.length = m)
    (hf : Instr.fill (fun i => some (i * 1, 1)) ((Array.range (m * 1)).map (z.cells[· % z.cells.size]!)) vs = some cs.toArray) (H : ∀ A s', s.le s' → Sl s' A m m 1 cs → GL P C n ops os k ((d, .slice A m m) :: f) s' h)
    (hm : Nat.ble m 1000 = true := by exact rfl) (hm0 : Nat.blt 0 m = true := by exact rfl) (hd : o.dst = some d := by exact rfl) (hw : Wants ops f o true := by first | exact Wants.all rfl | exact Wants.at_ rfl rfl rfl rfl) (hn : Nat.blt d n = true := by exact rfl) : GL P C n ops (o :: os) k f s h :=
  GL.eff hd hw (Eff.buildSlice (cs := cs) ho hx (by have := Nat.le_of_ble_eq_true hm; omega) (by rw [Nat.blt_eq] at hm0; omega) hf (by omega)) hn (by rintro v s' h' ⟨A, e, rfl, hs⟩ hle; cases e; exact H A s' hle hs) (by rintro _ _ _ ⟨A, e, _⟩; cases e)
end
def offRow (o : Int) : RowD := ⟨o, 0, 0, ⟨#[]⟩, ⟨#[]⟩⟩
abbrev partOf (en : Int) (l : List Int) (h : Hd) : PartD := ⟨0, en, h, ⟨none, 0, 0⟩, ⟨none, 0, 0⟩, l.map offRow, [], []⟩
theorem offRows_snoc (l : List Int) (x : Int) : (l.map offRow).flatMap RowD.enc ++ [.int .i64 x, .int .i64 0, .int .i64 0, .string ⟨#[]⟩, .string ⟨#[]⟩] = ((l ++ [x]).map offRow).flatMap RowD.enc := by
  simp [offRow, RowD.enc]
set_option maxHeartbeats 4000000 in
theorem part_calls (en : Int) (A : Option Addr) (n c : Nat) (l : List Int) (s : Store) (hs : Is s A n c l) (hn : n ≤ 1000) : Fn Try.prog 34 #[.int .i64 en, .slice A n c] s [] (fun e s' h' => ∃ h, e = .returned (partOf en l h).v ∧ h.n = n ∧ (partOf en l h).laid s' ∧ h' = []) := by
  have hl := hs.ilen
  refine Fn.intro (args := [.int .i64 en, .slice A n c]) Try.func34 rfl Try.ntmps34 (Nat.le_of_ble_eq_true rfl) (fun C ok hh => ?_)
  repeat (first | (with_reducible first | refine GL.nil ?_ | refine G.region ?_ | refine G.seq ?_ | refine G.skip ?_ | refine G.block ?_ | refine G.inBlock ?_ | refine G.label ?_) | ((with_reducible show GL _ _ _ _ (_ :: _) _ _ _ _); first | refine GL.p ?_ | refine GL.pK ?_ | refine GL.store ?_ | refine GL.storeN ?_ | refine GL.boxA (fun g => ?_) | refine GL.box1 (fun g => ?_) | refine GL.alloc1 rfl (fun g => ?_) | refine GL.allocA (fun g => ?_) | refine GL.no ?_) | ((with_reducible show G _ _ _ (Item.code (Code.cond _ _ _) :: _) _ _ _); first | refine G.condT rfl ?_ | refine G.condF rfl ?_ | refine G.condYes rfl (by omega) ?_ | refine G.condNo rfl (by omega) ?_) | (with_reducible refine G.exit rfl ?_))
  rename_i g4
  refine G.nilbuf 42 5 ?_
  refine G.loop (fun x : Nat × Option Addr × Nat => [(4, .pointer (some ⟨g4, 0, none⟩)), (5, .pointer (some ⟨g, 0, none⟩)), (10, .slice A n c), (11, .int .i64 n), (12, .int .i64 x.1)])
    (fun x => [partE g4 (partOf 0 [] ⟨none, 0, 0⟩), partE g (partOf en [] ⟨x.2.1, x.1, x.2.2⟩), .buf (.slice x.2.1 x.1 x.2.2) 42 5 x.1 (((l.take x.1).map offRow).flatMap RowD.enc)]) (fun x s' => s.le s' ∧ x.1 ≤ n) (fun x => n - x.1) (0, none, 0) (by ((repeat' (first | exact trivial | refine And.intro ?_ ?_)); all_goals (first | (refine congrArg some (congrArg (Value.int _) ?_); (try dsimp only); omega) | exact rfl))) (by (first | exact Split.refl _ | ((try dsimp only); repeat (first | exact Split.nil | (apply Split.cons; (repeat (first | exact Pick.head | apply Pick.tail))))))) ⟨Store.le.refl _, Nat.zero_le _⟩ ?_
  rintro ⟨i, A1, c1⟩ s1 ⟨hle, hi⟩ ih
  dsimp only at hi ⊢
  replace hs := hs.le hle
  by_cases hlt : (i : Int) < n
  · have hat := icells_at l i (by omega)
    have htake := List.take_succ_eq_append_getElem (l := l) (i := i) (by omega)
    rw [nth_of (by omega)] at htake
    repeat (first | (with_reducible first | refine GL.nil ?_ | refine G.region ?_ | refine G.seq ?_ | refine G.skip ?_ | refine G.block ?_ | refine G.inBlock ?_ | refine G.label ?_) | ((with_reducible show GL _ _ _ _ (_ :: _) _ _ _ _); first | refine GL.p ?_ | refine GL.pK ?_ | refine GL.store ?_ | refine GL.storeN ?_ | refine GL.boxA (fun g => ?_) | refine GL.box1 (fun g => ?_) | refine GL.alloc1 rfl (fun g => ?_) | refine GL.allocA (fun g => ?_) | refine GL.no ?_) | ((with_reducible show G _ _ _ (Item.code (Code.cond _ _ _) :: _) _ _ _); first | refine G.condT rfl ?_ | refine G.condF rfl ?_ | refine G.condYes rfl (by omega) ?_ | refine G.condNo rfl (by omega) ?_) | (with_reducible refine G.exit rfl ?_))
    refine GL.re 19 (.agg [.int .i64 (nth l i), .int .i64 0, .int .i64 0, .string ⟨#[]⟩, .string ⟨#[]⟩].toArray) ?_
    refine GL.litA rfl fun A2 s2 hle2 hs2 => ?_
    refine GL.appS rfl rfl (Src.of_sl hs2 (by simp [Value.oneCell'])) (by (try dsimp only); omega) (by (try dsimp only); omega) fun A3 c3 => ?_
    rw [offRows_snoc, ← htake]
    repeat (first | (with_reducible first | refine GL.nil ?_ | refine G.region ?_ | refine G.seq ?_ | refine G.skip ?_ | refine G.block ?_ | refine G.inBlock ?_ | refine G.label ?_) | ((with_reducible show GL _ _ _ _ (_ :: _) _ _ _ _); first | refine GL.p ?_ | refine GL.pK ?_ | refine GL.store ?_ | refine GL.storeN ?_ | refine GL.boxA (fun g => ?_) | refine GL.box1 (fun g => ?_) | refine GL.alloc1 rfl (fun g => ?_) | refine GL.allocA (fun g => ?_) | refine GL.no ?_) | ((with_reducible show G _ _ _ (Item.code (Code.cond _ _ _) :: _) _ _ _); first | refine G.condT rfl ?_ | refine G.condF rfl ?_ | refine G.condYes rfl (by omega) ?_ | refine G.condNo rfl (by omega) ?_) | (with_reducible refine G.exit rfl ?_))
    refine ih (i + 1, A3, c3) _ _ _ _ (by ((repeat' (first | exact trivial | refine And.intro ?_ ?_)); all_goals (first | (refine congrArg some (congrArg (Value.int _) ?_); (try dsimp only); omega) | exact rfl))) (by (first | exact Split.refl _ | ((try dsimp only); repeat (first | exact Split.nil | (apply Split.cons; (repeat (first | exact Pick.head | apply Pick.tail))))))) ⟨hle.trans hle2, by dsimp only; omega⟩ (by dsimp only; omega)
  · obtain rfl : i = n := by omega
    repeat (first | (with_reducible first | refine GL.nil ?_ | refine G.region ?_ | refine G.seq ?_ | refine G.skip ?_ | refine G.block ?_ | refine G.inBlock ?_ | refine G.label ?_) | ((with_reducible show GL _ _ _ _ (_ :: _) _ _ _ _); first | refine GL.p ?_ | refine GL.pK ?_ | refine GL.store ?_ | refine GL.storeN ?_ | refine GL.boxA (fun g => ?_) | refine GL.box1 (fun g => ?_) | refine GL.alloc1 rfl (fun g => ?_) | refine GL.allocA (fun g => ?_) | refine GL.no ?_) | ((with_reducible show G _ _ _ (Item.code (Code.cond _ _ _) :: _) _ _ _); first | refine G.condT rfl ?_ | refine G.condF rfl ?_ | refine G.condYes rfl (by omega) ?_ | refine G.condNo rfl (by omega) ?_) | (with_reducible refine G.exit rfl ?_))
    refine G.freezeBuf (by (repeat (first | exact Pick.head | apply Pick.tail))) fun s3 hle4 hs3 => ?_
    rw [List.take_of_length_le (by omega)] at hs3
    refine G.retS (h' := []) (v := (partOf en l ⟨A1, i, c1⟩).v) ok (resNc rfl rfl rfl rfl (by (repeat (first | exact List.Mem.head _ | apply List.Mem.tail)))) .nil ?_
    exact ⟨⟨A1, i, c1⟩, rfl, rfl, ⟨hs3, Sl.nil _ _, fun o ho => by simp at ho, Sl.nil _ _⟩, rfl⟩
theorem two_lt {p : Nat → Prop} (h0 : p 0) (h1 : p 1) : ∀ i, i < 2 → p i := fun i hi => by
  match i, hi with
  | 0, _ => exact h0
  | 1, _ => exact h1
theorem wOk (h h' : Hd) (hn : h.n = 2) (hn' : h'.n = 2) : mkOk (partOf 7 [2, 5] h) (partOf 2 [0, 1] h') := by
  refine ⟨⟨of_decide_eq_true rfl, of_decide_eq_true rfl, of_decide_eq_true rfl, ?_, ?_, ?_, fun i hi => ?_, fun i hi => ?_⟩, ⟨of_decide_eq_true rfl, of_decide_eq_true rfl, of_decide_eq_true rfl, ?_, ?_, ?_, fun i hi => ?_, fun i hi => ?_⟩, by rw [hn, hn']⟩
  · rw [hn]; exact two_lt (of_decide_eq_true rfl) (of_decide_eq_true rfl)
  · rw [hn]; exact two_lt (of_decide_eq_true rfl) (of_decide_eq_true rfl)
  · rw [hn]; intro i hi; obtain rfl : i = 0 := by omega
    exact of_decide_eq_true rfl
  · exact absurd hi (Nat.not_lt_zero _)
  · exact absurd hi (Nat.not_lt_zero _)
  · rw [hn']; exact two_lt (of_decide_eq_true rfl) (of_decide_eq_true rfl)
  · rw [hn']; exact two_lt (of_decide_eq_true rfl) (of_decide_eq_true rfl)
  · rw [hn']; intro i hi; obtain rfl : i = 0 := by omega
    exact of_decide_eq_true rfl
  · exact absurd hi (Nat.not_lt_zero _)
  · exact absurd hi (Nat.not_lt_zero _)
theorem wL (h h' : Hd) (hn : h.n = 2) : mkL (partOf 7 [2, 5] h) (partOf 2 [0, 1] h') = [0, 0, 0, 1, 1, 1, 2, 2] := by
  obtain ⟨A, n, c⟩ := h
  simp only at hn
  subst hn
  rfl
theorem toIs_ok {t : TabD} {o x e : Int} (h : ToIs t o x e) (hk : t.ok) (h0 : 0 ≤ o) (h1 : o ≤ t.en) : e = 0 ∧ x = nth t.l (o - t.st).toNat := by
  rcases h with ⟨h2, _⟩ | ⟨_, ⟨h2, _⟩ | ⟨h2, h3, _⟩ | ⟨_, _, h2, h3⟩⟩
  · exact absurd hk h2
  · omega
  · omega
  · exact ⟨h3, h2⟩
set_option maxHeartbeats 8000000 in
theorem wakes23_calls (s : Store) : Fn Try.prog 14 #[] s [] (fun e s' h' => e = .returned (.bool true) ∧ h' = []) := by
  refine Fn.intro (args := []) Try.func14 rfl Try.ntmps14 (Nat.le_of_ble_eq_true rfl) (fun C ok hh => ?_)
  repeat (first | (with_reducible first | refine GL.nil ?_ | refine G.region ?_ | refine G.seq ?_ | refine G.skip ?_ | refine G.block ?_ | refine G.inBlock ?_ | refine G.label ?_) | ((with_reducible show GL _ _ _ _ (_ :: _) _ _ _ _); first | refine GL.p ?_ | refine GL.pK ?_ | refine GL.store ?_ | refine GL.storeN ?_ | refine GL.boxA (fun g => ?_) | refine GL.box1 (fun g => ?_) | refine GL.alloc1 rfl (fun g => ?_) | refine GL.allocA (fun g => ?_) | refine GL.no ?_) | ((with_reducible show G _ _ _ (Item.code (Code.cond _ _ _) :: _) _ _ _); first | refine G.condT rfl ?_ | refine G.condF rfl ?_ | refine G.condYes rfl (by omega) ?_ | refine G.condNo rfl (by omega) ?_) | (with_reducible refine G.exit rfl ?_))
  refine GL.litC (ps := [(0, .const (.int .i64 2)), (1, .const (.int .i64 5))]) (cs := icells [2, 5]) rfl rfl rfl (by kernel_rfl) fun A1 s1 hle1 hs1 => ?_
  refine GL.call rfl rfl (part_calls 7 A1 2 2 [2, 5] s1 hs1 (by decide)) .nil fun v s2 h1' hq hle2 => ?_
  obtain ⟨h, e1, hn, hp, rfl⟩ := hq
  cases e1
  rw [List.nil_append]
  repeat (first | (with_reducible first | refine GL.nil ?_ | refine G.region ?_ | refine G.seq ?_ | refine G.skip ?_ | refine G.block ?_ | refine G.inBlock ?_ | refine G.label ?_) | ((with_reducible show GL _ _ _ _ (_ :: _) _ _ _ _); first | refine GL.p ?_ | refine GL.pK ?_ | refine GL.store ?_ | refine GL.storeN ?_ | refine GL.boxA (fun g => ?_) | refine GL.box1 (fun g => ?_) | refine GL.alloc1 rfl (fun g => ?_) | refine GL.allocA (fun g => ?_) | refine GL.no ?_) | ((with_reducible show G _ _ _ (Item.code (Code.cond _ _ _) :: _) _ _ _); first | refine G.condT rfl ?_ | refine G.condF rfl ?_ | refine G.condYes rfl (by omega) ?_ | refine G.condNo rfl (by omega) ?_) | (with_reducible refine G.exit rfl ?_))
  refine GL.litC (ps := [(0, .const (.int .i64 0)), (1, .const (.int .i64 1))]) (cs := icells [0, 1]) rfl rfl rfl (by kernel_rfl) fun A2 s3 hle3 hs3 => ?_
  refine GL.call rfl rfl (part_calls 2 A2 2 2 [0, 1] s3 hs3 (by decide)) .nil fun v s4 h1' hq hle4 => ?_
  obtain ⟨h', e1, hn', hp', rfl⟩ := hq
  cases e1
  rw [List.nil_append]
  repeat (first | (with_reducible first | refine GL.nil ?_ | refine G.region ?_ | refine G.seq ?_ | refine G.skip ?_ | refine G.block ?_ | refine G.inBlock ?_ | refine G.label ?_) | ((with_reducible show GL _ _ _ _ (_ :: _) _ _ _ _); first | refine GL.p ?_ | refine GL.pK ?_ | refine GL.store ?_ | refine GL.storeN ?_ | refine GL.boxA (fun g => ?_) | refine GL.box1 (fun g => ?_) | refine GL.alloc1 rfl (fun g => ?_) | refine GL.allocA (fun g => ?_) | refine GL.no ?_) | ((with_reducible show G _ _ _ (Item.code (Code.cond _ _ _) :: _) _ _ _); first | refine G.condT rfl ?_ | refine G.condF rfl ?_ | refine G.condYes rfl (by omega) ?_ | refine G.condNo rfl (by omega) ?_) | (with_reducible refine G.exit rfl ?_))
  refine GL.call rfl rfl (make_calls (partOf 7 [2, 5] h) (partOf 2 [0, 1] h') s4 (hp.le (hle3.trans hle4)) hp' (fun _ => of_decide_eq_true rfl)) .nil fun v s5 h1' hq hle5 => ?_
  obtain ⟨t, x, e1, hm, ht, rfl⟩ := hq
  cases e1
  rw [List.nil_append]
  have hmk := wOk h h' hn hn'
  rcases hm with ⟨h0, _⟩ | ⟨_, rfl, ht1, ht2, ht3⟩
  · exact absurd hmk h0
  have hok := mk_ok hmk ht1 ht2 ht3 ht.ilen
  rw [wL h h' hn] at ht3
  have hst : t.st = 0 := ht1
  have hen : t.en = 7 := ht2
  have hln := ht.ilen
  rw [ht3] at hln
  have hln8 : t.h.n = 8 := hln.symm
  repeat (first | (with_reducible first | refine GL.nil ?_ | refine G.region ?_ | refine G.seq ?_ | refine G.skip ?_ | refine G.block ?_ | refine G.inBlock ?_ | refine G.label ?_) | ((with_reducible show GL _ _ _ _ (_ :: _) _ _ _ _); first | refine GL.p ?_ | refine GL.pK ?_ | refine GL.store ?_ | refine GL.storeN ?_ | refine GL.boxA (fun g => ?_) | refine GL.box1 (fun g => ?_) | refine GL.alloc1 rfl (fun g => ?_) | refine GL.allocA (fun g => ?_) | refine GL.no ?_) | ((with_reducible show G _ _ _ (Item.code (Code.cond _ _ _) :: _) _ _ _); first | refine G.condT rfl ?_ | refine G.condF rfl ?_ | refine G.condYes rfl (by omega) ?_ | refine G.condNo rfl (by omega) ?_) | (with_reducible refine G.exit rfl ?_))
  refine GL.call rfl rfl (to_calls t 2 s5 ht) .nil fun v s6 h1' hq hle6 => ?_
  obtain ⟨x, y, e1, hto, hs, rfl⟩ := hq
  subst s6
  cases e1
  rw [List.nil_append]
  obtain ⟨rfl, hx⟩ := toIs_ok hto hok (by omega) (by omega)
  rw [ht3, hst] at hx
  obtain rfl : x = 0 := hx
  repeat (first | (with_reducible first | refine GL.nil ?_ | refine G.region ?_ | refine G.seq ?_ | refine G.skip ?_ | refine G.block ?_ | refine G.inBlock ?_ | refine G.label ?_) | ((with_reducible show GL _ _ _ _ (_ :: _) _ _ _ _); first | refine GL.p ?_ | refine GL.pK ?_ | refine GL.store ?_ | refine GL.storeN ?_ | refine GL.boxA (fun g => ?_) | refine GL.box1 (fun g => ?_) | refine GL.alloc1 rfl (fun g => ?_) | refine GL.allocA (fun g => ?_) | refine GL.no ?_) | ((with_reducible show G _ _ _ (Item.code (Code.cond _ _ _) :: _) _ _ _); first | refine G.condT rfl ?_ | refine G.condF rfl ?_ | refine G.condYes rfl (by omega) ?_ | refine G.condNo rfl (by omega) ?_) | (with_reducible refine G.exit rfl ?_))
  refine GL.call rfl rfl (to_calls t 3 s5 ht) .nil fun v s6 h1' hq hle6 => ?_
  obtain ⟨x, y, e1, hto, hs, rfl⟩ := hq
  subst s6
  cases e1
  rw [List.nil_append]
  obtain ⟨rfl, hx⟩ := toIs_ok hto hok (by omega) (by omega)
  rw [ht3, hst] at hx
  obtain rfl : x = 1 := hx
  repeat (first | (with_reducible first | refine GL.nil ?_ | refine G.region ?_ | refine G.seq ?_ | refine G.skip ?_ | refine G.block ?_ | refine G.inBlock ?_ | refine G.label ?_) | ((with_reducible show GL _ _ _ _ (_ :: _) _ _ _ _); first | refine GL.p ?_ | refine GL.pK ?_ | refine GL.store ?_ | refine GL.storeN ?_ | refine GL.boxA (fun g => ?_) | refine GL.box1 (fun g => ?_) | refine GL.alloc1 rfl (fun g => ?_) | refine GL.allocA (fun g => ?_) | refine GL.no ?_) | ((with_reducible show G _ _ _ (Item.code (Code.cond _ _ _) :: _) _ _ _); first | refine G.condT rfl ?_ | refine G.condF rfl ?_ | refine G.condYes rfl (by omega) ?_ | refine G.condNo rfl (by omega) ?_) | (with_reducible refine G.exit rfl ?_))
  refine GL.call rfl rfl (to_calls t 6 s5 ht) .nil fun v s6 h1' hq hle6 => ?_
  obtain ⟨x, y, e1, hto, hs, rfl⟩ := hq
  subst s6
  cases e1
  rw [List.nil_append]
  obtain ⟨rfl, hx⟩ := toIs_ok hto hok (by omega) (by omega)
  rw [ht3, hst] at hx
  obtain rfl : x = 2 := hx
  repeat (first | (with_reducible first | refine GL.nil ?_ | refine G.region ?_ | refine G.seq ?_ | refine G.skip ?_ | refine G.block ?_ | refine G.inBlock ?_ | refine G.label ?_) | ((with_reducible show GL _ _ _ _ (_ :: _) _ _ _ _); first | refine GL.p ?_ | refine GL.pK ?_ | refine GL.store ?_ | refine GL.storeN ?_ | refine GL.boxA (fun g => ?_) | refine GL.box1 (fun g => ?_) | refine GL.alloc1 rfl (fun g => ?_) | refine GL.allocA (fun g => ?_) | refine GL.no ?_) | ((with_reducible show G _ _ _ (Item.code (Code.cond _ _ _) :: _) _ _ _); first | refine G.condT rfl ?_ | refine G.condF rfl ?_ | refine G.condYes rfl (by omega) ?_ | refine G.condNo rfl (by omega) ?_) | (with_reducible refine G.exit rfl ?_))
  refine GL.call rfl rfl (back_calls t 1 s5 ht) .nil fun v s6 h1' hq hle6 => ?_
  obtain ⟨m, b, e1, hb, hs, rfl⟩ := hq
  subst s6
  cases e1
  rw [List.nil_append]
  obtain ⟨rfl, rfl⟩ : m = 5 ∧ b = true := hb.same (.inr ⟨hok, .inl ⟨rfl, 5, by omega, by rw [ht3]; rfl, fun j hj hj2 => by rw [ht3]; (have : j = 6 ∨ j = 7 := by omega); rcases this with rfl | rfl <;> decide, by rw [hst]; rfl⟩⟩)
  repeat (first | (with_reducible first | refine GL.nil ?_ | refine G.region ?_ | refine G.seq ?_ | refine G.skip ?_ | refine G.block ?_ | refine G.inBlock ?_ | refine G.label ?_) | ((with_reducible show GL _ _ _ _ (_ :: _) _ _ _ _); first | refine GL.p ?_ | refine GL.pK ?_ | refine GL.store ?_ | refine GL.storeN ?_ | refine GL.boxA (fun g => ?_) | refine GL.box1 (fun g => ?_) | refine GL.alloc1 rfl (fun g => ?_) | refine GL.allocA (fun g => ?_) | refine GL.no ?_) | ((with_reducible show G _ _ _ (Item.code (Code.cond _ _ _) :: _) _ _ _); first | refine G.condT rfl ?_ | refine G.condF rfl ?_ | refine G.condYes rfl (by omega) ?_ | refine G.condNo rfl (by omega) ?_) | (with_reducible refine G.exit rfl ?_))
  refine G.sub .nil ?_
  refine G.ret1 ok rfl ?_
  exact ⟨rfl, rfl⟩
end Go.Proofs.Ytnndjobhcncanaa
