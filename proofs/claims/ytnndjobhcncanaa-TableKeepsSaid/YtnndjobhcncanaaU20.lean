/- Tables as bytes: what is read of one. No statement of the seat is proved here. -/
import Derived.Test.YtnndjobhcncanaaU19
import Derived.Test.YtnndjobhcncanaaX3
namespace Go.Proofs.Ytnndjobhcncanaa
open Go.RowKit
section
variable {P : Program} {C : Ctx} {n : Nat} {k : List Item} {f : Fr} {s : Store} {h : List Ent} {ops : Array Oper} {o : Oper} {sS : Store} {hS : List Ent} {ds : List Nat} {m : Nat} {l : Array Bool}
open Go.Proofs.YtnndjobhcncanaaW.PrintLast in
/-- One operation alone may come up now; it acts, yields nothing, and leaves what is told. -/
theorem GD.eff0 {i : Nat} {next : Ending → Store → List Ent → Prop} (l' : Array Bool) (hi : ops[i]? = some o) (hd : o.dst = none) (hc : readyB .any ops l l' i = true) (hds : i ∉ ds) (hw : Wants ops f o true) (he : Eff P f s h o next) (hle : sS.le s)
    (hkeep : ∀ v s' h', next (.returned v) s' h' → ∃ r, Split hS h' r)
    (H : ∀ v s' h', next (.returned v) s' h' → s.le s' → GD P C n ops sS hS ds m l' k f s' h')
    (HP : ∀ ch s' h', next (.panicked ch) s' h' → s.le s' → GR P C n (.panicking ch) f s' h') : GD P C n ops sS hS ds (m + 1) l k f s h :=
  fun a w h1 h2 h3 h4 => one_ l' hi hd hc hds fun K hK => by
    rw [if_pos (hw a h2)]
    refine he a w K _ h2 h4.mem (fun v s' h' w' hx c => ?_) (fun ch s' h' w' hx c => ⟨h3, fun _ => ?_⟩)
    · rw [hd]
      obtain ⟨r, hr⟩ := hkeep v s' h' hx
      exact hK _ w' (c.mem.hsub hr (hle.trans c.le)) (fun _ => H v s' h' hx c.le _ w' h1 h2 h3 (Cur.after h4 c))
    · have ⟨x, y⟩ := HP ch s' h' hx c.le
      exact ⟨x, _, rfl, h3 ▸ y a w' h1 h2 h3 (Cur.after h4 c)⟩
theorem GD.storeNK (i : Nat) (l' : Array Bool) {t : TypeId} {x y : Operand} {g j : Nat} {c c' lv : List Value} {e : TypeId} {z : Value} {sz b : Nat} {h2 r : List Ent} [it : IT P t z sz b] (H : GD P C n ops sS hS ds m l' k f s (.blk g (.cells c'.toArray e (0, 0)) :: h2)) (hi : ops[i]? = some o := by exact rfl) (ho : o.op = .store t x y := by exact rfl) (hx : f.val x = some (.pointer (some ⟨g, j, none⟩)) := by exact rfl) (hy : f.val y = some (.agg lv.toArray) := by exact rfl)
    (hv : (lv.all fun v => v.oneCell') = true := by exact rfl) (hm : Pick (.blk g (.cells c.toArray e (0, 0))) h h2 := by (repeat (first | exact Pick.head | apply Pick.tail))) (hj : Nat.ble (j + lv.length) c.length = true := by exact rfl) (hl : lv.length = sz := by exact rfl) (hc : setL c j lv = c' := by ((try simp only [setL, List.set_cons_zero, List.set_cons_succ]); exact rfl)) (hkeep : Split hS (.blk g (.cells c'.toArray e (0, 0)) :: h2) r := by (first | exact Split.refl _ | ((try dsimp only); repeat (first | exact Split.nil | (apply Split.cons; (repeat (first | exact Pick.head | apply Pick.tail))))))) (hd : o.dst = none := by exact rfl) (hw : Wants ops f o true := by first | exact Wants.all rfl | exact Wants.at_ rfl rfl rfl rfl) (hds : i ∉ ds := by simp) (hcc : Go.Proofs.YtnndjobhcncanaaW.PrintLast.readyB .any ops l l' i = true := by kernel_rfl) (hle : sS.le s := by first | exact Store.le.refl _ | assumption) : GD P C n ops sS hS ds (m + 1) l k f s h :=
  GD.eff0 l' hi hd hcc hds hw (Eff.storeN ho hx hy hv hm (Nat.le_of_ble_eq_true hj) hl hc) hle (by rintro v s' h' ⟨_, rfl, rfl⟩; exact ⟨r, hkeep⟩) (by rintro v s' h' ⟨_, rfl, rfl⟩ _; exact H) (by rintro _ _ _ ⟨e, _⟩; cases e)
end
theorem rdNum_in {l : List UInt8} {i : Nat} {bad : Bool} {a b : Int} (h : i ≤ l.length) (hb : 0 ≤ b) : (rdNum l i bad a b).2.1 ≤ l.length ∧ ((rdNum l i bad a b).1 : Int) ≤ b := by
  cases bad with
  | true => exact ⟨h, hb⟩
  | false =>
    cases hn : numR l i a b with
    | none => rw [rdNum_none hn]; exact ⟨h, hb⟩
    | some x =>
      obtain ⟨n, i1⟩ := x
      rw [rdNum_some hn]
      obtain ⟨h1, h2, h3, h4, h5⟩ := numR_inv hn
      refine ⟨?_, h4⟩
      have := congrArg List.length h1
      rw [List.length_append, venc_length, List.length_drop, List.length_drop] at this
      have := vlen_pos n
      show i1 ≤ l.length
      omega
def okC (x : Int × Int × List Int) : Prop := 0 ≤ x.1 ∧ x.1 ≤ x.2.1 ∧ x.2.1 ≤ 1048576 ∧ (x.2.2.length : Int) = x.2.1 - x.1 + 1 ∧ (∀ i, i < x.2.2.length → 0 ≤ nth x.2.2 i) ∧ (∀ i, i < x.2.2.length → nth x.2.2 i ≤ 1048576) ∧ ∀ i, i + 1 < x.2.2.length → nth x.2.2 i ≤ nth x.2.2 (i + 1)
abbrev TabD.con (t : TabD) : Int × Int × List Int := (t.st, t.en, t.l)
theorem TabD.ok_iff {t : TabD} (hl : t.l.length = t.h.n) : t.ok ↔ okC t.con := by
  constructor
  · intro h
    exact ⟨h.st, h.se, h.en, by show (t.l.length : Int) = _; rw [hl]; exact h.len, by show ∀ i, i < t.l.length → _; rw [hl]; exact h.lo, by show ∀ i, i < t.l.length → _; rw [hl]; exact h.hi, by show ∀ i, i + 1 < t.l.length → _; rw [hl]; exact h.up⟩
  · rintro ⟨h1, h2, h3, h4, h5, h6, h7⟩
    have h4' : (t.l.length : Int) = t.en - t.st + 1 := h4
    exact ⟨h1, h2, h3, by omega, fun i hi => h5 i (by show i < t.l.length; omega), fun i hi => h6 i (by show i < t.l.length; omega), fun i hi => h7 i (by show i + 1 < t.l.length; omega)⟩
/-- So many offsets, each told by how much it is above the one ahead. -/
def rdC (z : ByteArray) (i : Nat) (bad : Bool) : Nat → List Int × Int × Nat × Bool
  | 0 => ([], 0, i, bad)
  | j + 1 => ((rdC z i bad j).1 ++ [(rdC z i bad j).2.1 + (rdNum z.data.toList (rdC z i bad j).2.2.1 (rdC z i bad j).2.2.2 0 1048576).1], (rdC z i bad j).2.1 + (rdNum z.data.toList (rdC z i bad j).2.2.1 (rdC z i bad j).2.2.2 0 1048576).1, (rdNum z.data.toList (rdC z i bad j).2.2.1 (rdC z i bad j).2.2.2 0 1048576).2)
theorem rdC_in {z : ByteArray} {i : Nat} {bad : Bool} (h : i ≤ z.size) : ∀ j, (rdC z i bad j).1.length = j ∧ 0 ≤ (rdC z i bad j).2.1 ∧ (rdC z i bad j).2.1 ≤ 1048576 * j ∧ (rdC z i bad j).2.2.1 ≤ z.size
  | 0 => ⟨rfl, Int.le_refl 0, by simp [rdC], h⟩
  | j + 1 => by
    obtain ⟨h1, h2, h3, h4⟩ := rdC_in (bad := bad) h j
    have hzl := bytes_len z
    have h5 := rdNum_in (l := z.data.toList) (i := (rdC z i bad j).2.2.1) (bad := (rdC z i bad j).2.2.2) (a := 0) (b := 1048576) (by omega) (by omega)
    refine ⟨by rw [rdC, List.length_append, h1]; rfl, ?_, ?_, ?_⟩
    · show 0 ≤ (rdC z i bad j).2.1 + _
      omega
    · show (rdC z i bad j).2.1 + _ ≤ _
      omega
    · show (rdNum _ _ _ _ _).2.1 ≤ z.size
      omega
def oneR (z : ByteArray) (i : Nat) (bad : Bool) (most : Int) : (Int × Int × List Int) × Nat × Bool :=
  let a := rdNum z.data.toList i bad 0 1048576
  let b := rdNum z.data.toList a.2.1 a.2.2 1 most
  let c := rdC z b.2.1 b.2.2 b.1
  (((a.1 : Int), (a.1 : Int) + b.1 - 1, c.1), c.2.2.1, c.2.2.2)
theorem oneR_eq {z : ByteArray} {i : Nat} {bad : Bool} {most : Int} {a b : Nat × Nat × Bool} {c : List Int × Int × Nat × Bool} (ha : rdNum z.data.toList i bad 0 1048576 = a) (hb : rdNum z.data.toList a.2.1 a.2.2 1 most = b) (hc : rdC z b.2.1 b.2.2 b.1 = c) : oneR z i bad most = (((a.1 : Int), (a.1 : Int) + b.1 - 1, c.1), c.2.2.1, c.2.2.2) := by
  subst ha hb hc
  rfl
set_option maxRecDepth 20000 in
set_option maxHeartbeats 16000000 in
theorem one_calls (gR : Nat) (z : ByteArray) (i0 : Nat) (bad : Bool) (most : Nat) (s : Store) (hi : i0 ≤ z.size) (hz : z.size ≤ 100000) (hmost : most ≤ 100000) :
    Fn Try.prog 48 #[.pointer (some ⟨gR, 0, none⟩), .int .i64 most] s [rdE gR z i0 bad] (fun e s' h' => ∃ (t : TabD) (b : Bool), e = .returned (.tuple #[t.v, .bool b]) ∧ t.con = (oneR z i0 bad most).1 ∧ (b = true ↔ (oneR z i0 bad most).2.2 = false ∧ t.ok) ∧ t.laid s' ∧ h' = [rdE gR z (oneR z i0 bad most).2.1 (oneR z i0 bad most).2.2]) := by
  have hzl := bytes_len z
  refine Fn.intro (args := [.pointer (some ⟨gR, 0, none⟩), .int .i64 most]) Try.func48 rfl Try.ntmps48 (Nat.le_of_ble_eq_true rfl) (fun C ok hh => ?_)
  repeat (first | (with_reducible first | refine GL.nil ?_ | refine G.region ?_ | refine G.seq ?_ | refine G.skip ?_ | refine G.block ?_ | refine G.inBlock ?_ | refine G.label ?_) | ((with_reducible show GL _ _ _ _ (_ :: _) _ _ _ _); first | refine GL.p ?_ | refine GL.pK ?_ | refine GL.store ?_ | refine GL.storeN ?_ | refine GL.boxA (fun g => ?_) | refine GL.box1 (fun g => ?_) | refine GL.alloc1 rfl (fun g => ?_) | refine GL.allocA (fun g => ?_) | refine GL.no ?_) | ((with_reducible show G _ _ _ (Item.code (Code.cond _ _ _) :: _) _ _ _); first | refine G.condT rfl ?_ | refine G.condF rfl ?_ | refine G.condYes rfl (by omega) ?_ | refine G.condNo rfl (by omega) ?_) | (with_reducible refine G.exit rfl ?_))
  refine GL.call rfl rfl (Number_calls gR z i0 bad 0 1048576 _ hi (by omega)) (by (first | exact Split.refl _ | ((try dsimp only); repeat (first | exact Split.nil | (apply Split.cons; (repeat (first | exact Pick.head | apply Pick.tail))))))) fun v s1 h1 hp hle1 => ?_
  obtain ⟨e1, rfl⟩ := hp
  cases e1
  have ha1 := rdNum_in (l := z.data.toList) (i := i0) (bad := bad) (a := 0) (b := 1048576) (by omega) (by omega)
  generalize hA : rdNum z.data.toList i0 bad 0 1048576 = a at ha1 ⊢
  repeat (first | (with_reducible first | refine GL.nil ?_ | refine G.region ?_ | refine G.seq ?_ | refine G.skip ?_ | refine G.block ?_ | refine G.inBlock ?_ | refine G.label ?_) | ((with_reducible show GL _ _ _ _ (_ :: _) _ _ _ _); first | refine GL.p ?_ | refine GL.pK ?_ | refine GL.store ?_ | refine GL.storeN ?_ | refine GL.boxA (fun g => ?_) | refine GL.box1 (fun g => ?_) | refine GL.alloc1 rfl (fun g => ?_) | refine GL.allocA (fun g => ?_) | refine GL.no ?_) | ((with_reducible show G _ _ _ (Item.code (Code.cond _ _ _) :: _) _ _ _); first | refine G.condT rfl ?_ | refine G.condF rfl ?_ | refine G.condYes rfl (by omega) ?_ | refine G.condNo rfl (by omega) ?_) | (with_reducible refine G.exit rfl ?_))
  rw [if_neg (by omega)]
  refine GL.call rfl rfl (Number_calls gR z a.2.1 a.2.2 1 most _ (by omega) (by omega)) (by (first | exact Split.refl _ | ((try dsimp only); repeat (first | exact Split.nil | (apply Split.cons; (repeat (first | exact Pick.head | apply Pick.tail))))))) fun v s2 h1 hp hle2 => ?_
  obtain ⟨e1, rfl⟩ := hp
  cases e1
  have hb1 := rdNum_in (l := z.data.toList) (i := a.2.1) (bad := a.2.2) (a := 1) (b := most) (by omega) (by omega)
  generalize hB : rdNum z.data.toList a.2.1 a.2.2 1 most = b at hb1 ⊢
  repeat (first | (with_reducible first | refine GL.nil ?_ | refine G.region ?_ | refine G.seq ?_ | refine G.skip ?_ | refine G.block ?_ | refine G.inBlock ?_ | refine G.label ?_) | ((with_reducible show GL _ _ _ _ (_ :: _) _ _ _ _); first | refine GL.p ?_ | refine GL.pK ?_ | refine GL.store ?_ | refine GL.storeN ?_ | refine GL.boxA (fun g => ?_) | refine GL.box1 (fun g => ?_) | refine GL.alloc1 rfl (fun g => ?_) | refine GL.allocA (fun g => ?_) | refine GL.no ?_) | ((with_reducible show G _ _ _ (Item.code (Code.cond _ _ _) :: _) _ _ _); first | refine G.condT rfl ?_ | refine G.condF rfl ?_ | refine G.condYes rfl (by omega) ?_ | refine G.condNo rfl (by omega) ?_) | (with_reducible refine G.exit rfl ?_))
  refine G.nilbuf 3 1 ?_
  refine G.loop (fun x : Nat × Option Addr × Nat => [(0, .pointer (some ⟨gR, 0, none⟩)), (4, .pointer (some ⟨g, 0, none⟩)), (7, .int .i64 (rdC z b.2.1 b.2.2 x.1).2.1), (21, .int .i64 b.1), (22, .int .i64 x.1)])
    (fun x => [rdE gR z (rdC z b.2.1 b.2.2 x.1).2.2.1 (rdC z b.2.1 b.2.2 x.1).2.2.2, tabE g ⟨a.1, a.1 + b.1 - 1, ⟨x.2.1, x.1, x.2.2⟩, []⟩, .buf (.slice x.2.1 x.1 x.2.2) 3 1 x.1 (icells (rdC z b.2.1 b.2.2 x.1).1)]) (fun x s' => s2.le s' ∧ x.1 ≤ b.1) (fun x => b.1 - x.1) (0, none, 0) (by ((repeat' (first | exact trivial | refine And.intro ?_ ?_)); all_goals (first | (refine congrArg some (congrArg (Value.int _) ?_); (try dsimp only); omega) | exact rfl))) (by (first | exact Split.refl _ | ((try dsimp only); repeat (first | exact Split.nil | (apply Split.cons; (repeat (first | exact Pick.head | apply Pick.tail))))))) ⟨Store.le.refl _, Nat.zero_le _⟩ ?_
  rintro ⟨j, A, cc⟩ s3 ⟨hle3, hj⟩ ih
  dsimp only at hj ⊢
  obtain ⟨hr1, hr2, hr3, hr4⟩ := rdC_in (z := z) (i := b.2.1) (bad := b.2.2) (by omega) j
  by_cases hlt : (j : Int) < b.1
  · have hstep : rdC z b.2.1 b.2.2 (j + 1) = ((rdC z b.2.1 b.2.2 j).1 ++ [(rdC z b.2.1 b.2.2 j).2.1 + (rdNum z.data.toList (rdC z b.2.1 b.2.2 j).2.2.1 (rdC z b.2.1 b.2.2 j).2.2.2 0 1048576).1], (rdC z b.2.1 b.2.2 j).2.1 + (rdNum z.data.toList (rdC z b.2.1 b.2.2 j).2.2.1 (rdC z b.2.1 b.2.2 j).2.2.2 0 1048576).1, (rdNum z.data.toList (rdC z b.2.1 b.2.2 j).2.2.1 (rdC z b.2.1 b.2.2 j).2.2.2 0 1048576).2) := rfl
    generalize rdC z b.2.1 b.2.2 j = R at hr1 hr2 hr3 hr4 hstep ⊢
    repeat (first | (with_reducible first | refine GL.nil ?_ | refine G.region ?_ | refine G.seq ?_ | refine G.skip ?_ | refine G.block ?_ | refine G.inBlock ?_ | refine G.label ?_) | ((with_reducible show GL _ _ _ _ (_ :: _) _ _ _ _); first | refine GL.p ?_ | refine GL.pK ?_ | refine GL.store ?_ | refine GL.storeN ?_ | refine GL.boxA (fun g => ?_) | refine GL.box1 (fun g => ?_) | refine GL.alloc1 rfl (fun g => ?_) | refine GL.allocA (fun g => ?_) | refine GL.no ?_) | ((with_reducible show G _ _ _ (Item.code (Code.cond _ _ _) :: _) _ _ _); first | refine G.condT rfl ?_ | refine G.condF rfl ?_ | refine G.condYes rfl (by omega) ?_ | refine G.condNo rfl (by omega) ?_) | (with_reducible refine G.exit rfl ?_))
    refine GL.call rfl rfl (Number_calls gR z R.2.2.1 R.2.2.2 0 1048576 _ hr4 (by omega)) (by (first | exact Split.refl _ | ((try dsimp only); repeat (first | exact Split.nil | (apply Split.cons; (repeat (first | exact Pick.head | apply Pick.tail))))))) fun v s4 h1 hp hle4 => ?_
    obtain ⟨e1, rfl⟩ := hp
    cases e1
    have hn1 := rdNum_in (l := z.data.toList) (i := R.2.2.1) (bad := R.2.2.2) (a := 0) (b := 1048576) (by omega) (by omega)
    generalize rdNum z.data.toList R.2.2.1 R.2.2.2 0 1048576 = y at hn1 hstep ⊢
    repeat (first | (with_reducible first | refine GL.nil ?_ | refine G.region ?_ | refine G.seq ?_ | refine G.skip ?_ | refine G.block ?_ | refine G.inBlock ?_ | refine G.label ?_) | ((with_reducible show GL _ _ _ _ (_ :: _) _ _ _ _); first | refine GL.p ?_ | refine GL.pK ?_ | refine GL.store ?_ | refine GL.storeN ?_ | refine GL.boxA (fun g => ?_) | refine GL.box1 (fun g => ?_) | refine GL.alloc1 rfl (fun g => ?_) | refine GL.allocA (fun g => ?_) | refine GL.no ?_) | ((with_reducible show G _ _ _ (Item.code (Code.cond _ _ _) :: _) _ _ _); first | refine G.condT rfl ?_ | refine G.condF rfl ?_ | refine G.condYes rfl (by omega) ?_ | refine G.condNo rfl (by omega) ?_) | (with_reducible refine G.exit rfl ?_))
    refine GL.lit1 rfl fun A1 s5 hle5 hs5 => ?_
    refine GL.appS rfl rfl (Src.of_sl hs5 (by simp [Value.oneCell'])) (by (try dsimp only); omega) (by (try dsimp only); omega) fun A2 c2 => ?_
    rw [icells_snoc]
    repeat (first | (with_reducible first | refine GL.nil ?_ | refine G.region ?_ | refine G.seq ?_ | refine G.skip ?_ | refine G.block ?_ | refine G.inBlock ?_ | refine G.label ?_) | ((with_reducible show GL _ _ _ _ (_ :: _) _ _ _ _); first | refine GL.p ?_ | refine GL.pK ?_ | refine GL.store ?_ | refine GL.storeN ?_ | refine GL.boxA (fun g => ?_) | refine GL.box1 (fun g => ?_) | refine GL.alloc1 rfl (fun g => ?_) | refine GL.allocA (fun g => ?_) | refine GL.no ?_) | ((with_reducible show G _ _ _ (Item.code (Code.cond _ _ _) :: _) _ _ _); first | refine G.condT rfl ?_ | refine G.condF rfl ?_ | refine G.condYes rfl (by omega) ?_ | refine G.condNo rfl (by omega) ?_) | (with_reducible refine G.exit rfl ?_))
    refine ih (j + 1, A2, c2) _ _ _ _ (by rw [hstep]; ((repeat' (first | exact trivial | refine And.intro ?_ ?_)); all_goals (first | (refine congrArg some (congrArg (Value.int _) ?_); (try dsimp only); omega) | exact rfl))) (by rw [hstep]; (first | exact Split.refl _ | ((try dsimp only); repeat (first | exact Split.nil | (apply Split.cons; (repeat (first | exact Pick.head | apply Pick.tail))))))) ⟨hle3.trans (hle4.trans hle5), by dsimp only; omega⟩ (by dsimp only; omega)
  · obtain rfl : j = b.1 := by omega
    have hone := oneR_eq (most := most) hA hB rfl
    generalize rdC z b.2.1 b.2.2 b.1 = R at hr1 hr2 hr3 hr4 hone ⊢
    obtain ⟨rl, rlast, ri, rbad⟩ := R
    dsimp only at hr1 hr2 hr3 hr4 hone ⊢
    refine G.freezeBuf (by (repeat (first | exact Pick.head | apply Pick.tail))) fun s4 hle4 hs4 => ?_
    have hcap := hs4.cap
    have hlenR := hs4.ilen
    have ht : TabD.laid s4 ⟨a.1, (a.1 : Int) + b.1 - 1, ⟨A, b.1, b.1⟩, rl⟩ := hs4.recap (Nat.le_refl _) hcap
    repeat (first | (with_reducible first | refine GL.nil ?_ | refine G.region ?_ | refine G.seq ?_ | refine G.skip ?_ | refine G.block ?_ | refine G.inBlock ?_ | refine G.label ?_) | ((with_reducible show GL _ _ _ _ (_ :: _) _ _ _ _); first | refine GL.p ?_ | refine GL.pK ?_ | refine GL.store ?_ | refine GL.storeN ?_ | refine GL.boxA (fun g => ?_) | refine GL.box1 (fun g => ?_) | refine GL.alloc1 rfl (fun g => ?_) | refine GL.allocA (fun g => ?_) | refine GL.no ?_) | ((with_reducible show G _ _ _ (Item.code (Code.cond _ _ _) :: _) _ _ _); first | refine G.condT rfl ?_ | refine G.condF rfl ?_ | refine G.condYes rfl (by omega) ?_ | refine G.condNo rfl (by omega) ?_) | (with_reducible refine G.exit rfl ?_))
    cases rbad with
    | true =>
      refine G.draw (m := 13) [rdE gR z ri true, tabE g ⟨a.1, (a.1 : Int) + b.1 - 1, ⟨A, b.1, b.1⟩, rl⟩] [] (lay 13 0) follows_mixed rfl (by kernel_rfl) (by (first | exact Split.refl _ | ((try dsimp only); repeat (first | exact Split.nil | (apply Split.cons; (repeat (first | exact Pick.head | apply Pick.tail))))))) ?_
      (first | refine GD.p 0 (lay 13 1) ?_ | refine GD.no 0 (lay 13 1) ?_ | refine GD.pK 0 (lay 13 1) ?_); (first | refine GD.p 1 (lay 13 3) ?_ | refine GD.no 1 (lay 13 3) ?_ | refine GD.pK 1 (lay 13 3) ?_); (first | refine GD.p 2 (lay 13 7) ?_ | refine GD.no 2 (lay 13 7) ?_ | refine GD.pK 2 (lay 13 7) ?_); (first | refine GD.p 3 (lay 13 15) ?_ | refine GD.no 3 (lay 13 15) ?_ | refine GD.pK 3 (lay 13 15) ?_); (first | refine GD.p 4 (lay 13 31) ?_ | refine GD.no 4 (lay 13 31) ?_ | refine GD.pK 4 (lay 13 31) ?_); (first | refine GD.p 5 (lay 13 63) ?_ | refine GD.no 5 (lay 13 63) ?_ | refine GD.pK 5 (lay 13 63) ?_); (first | refine GD.p 6 (lay 13 127) ?_ | refine GD.no 6 (lay 13 127) ?_ | refine GD.pK 6 (lay 13 127) ?_); (first | refine GD.p 7 (lay 13 255) ?_ | refine GD.no 7 (lay 13 255) ?_ | refine GD.pK 7 (lay 13 255) ?_); (first | refine GD.p 8 (lay 13 511) ?_ | refine GD.no 8 (lay 13 511) ?_ | refine GD.pK 8 (lay 13 511) ?_); (first | refine GD.p 9 (lay 13 1023) ?_ | refine GD.no 9 (lay 13 1023) ?_ | refine GD.pK 9 (lay 13 1023) ?_); (first | refine GD.p 10 (lay 13 2047) ?_ | refine GD.no 10 (lay 13 2047) ?_ | refine GD.pK 10 (lay 13 2047) ?_)
      refine GD.storeNK 11 (lay 13 4095) ?_
      (first | refine GD.p 12 (lay 13 8191) ?_ | refine GD.no 12 (lay 13 8191) ?_ | refine GD.pK 12 (lay 13 8191) ?_)
      refine GD.nil ?_
      repeat (first | (with_reducible first | refine GL.nil ?_ | refine G.region ?_ | refine G.seq ?_ | refine G.skip ?_ | refine G.block ?_ | refine G.inBlock ?_ | refine G.label ?_) | ((with_reducible show GL _ _ _ _ (_ :: _) _ _ _ _); first | refine GL.p ?_ | refine GL.pK ?_ | refine GL.store ?_ | refine GL.storeN ?_ | refine GL.boxA (fun g => ?_) | refine GL.box1 (fun g => ?_) | refine GL.alloc1 rfl (fun g => ?_) | refine GL.allocA (fun g => ?_) | refine GL.no ?_) | ((with_reducible show G _ _ _ (Item.code (Code.cond _ _ _) :: _) _ _ _); first | refine G.condT rfl ?_ | refine G.condF rfl ?_ | refine G.condYes rfl (by omega) ?_ | refine G.condNo rfl (by omega) ?_) | (with_reducible refine G.exit rfl ?_))
      refine G.retS (h' := [rdE gR z ri true]) (v := .tuple #[TabD.v ⟨a.1, (a.1 : Int) + b.1 - 1, ⟨A, b.1, b.1⟩, rl⟩, .bool false]) ok (resNc1 rfl rfl rfl rfl rfl (by (repeat (first | exact List.Mem.head _ | apply List.Mem.tail)))) (by (first | exact Split.refl _ | ((try dsimp only); repeat (first | exact Split.nil | (apply Split.cons; (repeat (first | exact Pick.head | apply Pick.tail))))))) ?_
      exact ⟨⟨a.1, (a.1 : Int) + b.1 - 1, ⟨A, b.1, b.1⟩, rl⟩, false, rfl, by rw [hone], ⟨fun h => by simp at h, fun h => by rw [hone] at h; simp at h⟩, ht, by rw [hone]⟩
    | false =>
      refine G.draw (m := 13) [rdE gR z ri false, tabE g ⟨a.1, (a.1 : Int) + b.1 - 1, ⟨A, b.1, b.1⟩, rl⟩] [] (lay 13 0) follows_mixed rfl (by kernel_rfl) (by (first | exact Split.refl _ | ((try dsimp only); repeat (first | exact Split.nil | (apply Split.cons; (repeat (first | exact Pick.head | apply Pick.tail))))))) ?_
      (first | refine GD.p 0 (lay 13 1) ?_ | refine GD.no 0 (lay 13 1) ?_ | refine GD.pK 0 (lay 13 1) ?_); (first | refine GD.p 1 (lay 13 3) ?_ | refine GD.no 1 (lay 13 3) ?_ | refine GD.pK 1 (lay 13 3) ?_); (first | refine GD.p 2 (lay 13 7) ?_ | refine GD.no 2 (lay 13 7) ?_ | refine GD.pK 2 (lay 13 7) ?_); (first | refine GD.p 3 (lay 13 15) ?_ | refine GD.no 3 (lay 13 15) ?_ | refine GD.pK 3 (lay 13 15) ?_); (first | refine GD.p 4 (lay 13 31) ?_ | refine GD.no 4 (lay 13 31) ?_ | refine GD.pK 4 (lay 13 31) ?_); (first | refine GD.p 5 (lay 13 63) ?_ | refine GD.no 5 (lay 13 63) ?_ | refine GD.pK 5 (lay 13 63) ?_); (first | refine GD.p 6 (lay 13 127) ?_ | refine GD.no 6 (lay 13 127) ?_ | refine GD.pK 6 (lay 13 127) ?_); (first | refine GD.p 7 (lay 13 255) ?_ | refine GD.no 7 (lay 13 255) ?_ | refine GD.pK 7 (lay 13 255) ?_)
      refine GD.call 8 (lay 13 511) rfl rfl rfl (tcheck_calls ⟨a.1, (a.1 : Int) + b.1 - 1, ⟨A, b.1, b.1⟩, rl⟩ s4 ht) .nil (fun v s5 h1' hq hle5 => ?_) (fun v s5 h1' hq => ?_)
      rotate_left
      · obtain ⟨x, e1, hx, hs1, rfl⟩ := hq
        exact ⟨_, .cons (.tail .head) (.cons .head .nil)⟩
      obtain ⟨x, e1, hx, hs1, rfl⟩ := hq
      subst s5
      cases e1
      rw [List.nil_append]
      rcases hx with ⟨rfl, hk⟩ | ⟨rfl, hk⟩
      · (first | refine GD.p 9 (lay 13 1023) ?_ | refine GD.no 9 (lay 13 1023) ?_ | refine GD.pK 9 (lay 13 1023) ?_); (first | refine GD.p 10 (lay 13 2047) ?_ | refine GD.no 10 (lay 13 2047) ?_ | refine GD.pK 10 (lay 13 2047) ?_)
        refine GD.storeNK 11 (lay 13 4095) ?_
        (first | refine GD.p 12 (lay 13 8191) ?_ | refine GD.no 12 (lay 13 8191) ?_ | refine GD.pK 12 (lay 13 8191) ?_)
        refine GD.nil ?_
        repeat (first | (with_reducible first | refine GL.nil ?_ | refine G.region ?_ | refine G.seq ?_ | refine G.skip ?_ | refine G.block ?_ | refine G.inBlock ?_ | refine G.label ?_) | ((with_reducible show GL _ _ _ _ (_ :: _) _ _ _ _); first | refine GL.p ?_ | refine GL.pK ?_ | refine GL.store ?_ | refine GL.storeN ?_ | refine GL.boxA (fun g => ?_) | refine GL.box1 (fun g => ?_) | refine GL.alloc1 rfl (fun g => ?_) | refine GL.allocA (fun g => ?_) | refine GL.no ?_) | ((with_reducible show G _ _ _ (Item.code (Code.cond _ _ _) :: _) _ _ _); first | refine G.condT rfl ?_ | refine G.condF rfl ?_ | refine G.condYes rfl (by omega) ?_ | refine G.condNo rfl (by omega) ?_) | (with_reducible refine G.exit rfl ?_))
        refine G.retS (h' := [rdE gR z ri false]) (v := .tuple #[TabD.v ⟨a.1, (a.1 : Int) + b.1 - 1, ⟨A, b.1, b.1⟩, rl⟩, .bool true]) ok (resNc1 rfl rfl rfl rfl rfl (by (repeat (first | exact List.Mem.head _ | apply List.Mem.tail)))) (by (first | exact Split.refl _ | ((try dsimp only); repeat (first | exact Split.nil | (apply Split.cons; (repeat (first | exact Pick.head | apply Pick.tail))))))) ?_
        exact ⟨⟨a.1, (a.1 : Int) + b.1 - 1, ⟨A, b.1, b.1⟩, rl⟩, true, rfl, by rw [hone], ⟨fun _ => ⟨by rw [hone], hk⟩, fun _ => rfl⟩, ht, by rw [hone]⟩
      · (first | refine GD.p 9 (lay 13 1023) ?_ | refine GD.no 9 (lay 13 1023) ?_ | refine GD.pK 9 (lay 13 1023) ?_); (first | refine GD.p 10 (lay 13 2047) ?_ | refine GD.no 10 (lay 13 2047) ?_ | refine GD.pK 10 (lay 13 2047) ?_)
        refine GD.storeNK 11 (lay 13 4095) ?_
        (first | refine GD.p 12 (lay 13 8191) ?_ | refine GD.no 12 (lay 13 8191) ?_ | refine GD.pK 12 (lay 13 8191) ?_)
        refine GD.nil ?_
        repeat (first | (with_reducible first | refine GL.nil ?_ | refine G.region ?_ | refine G.seq ?_ | refine G.skip ?_ | refine G.block ?_ | refine G.inBlock ?_ | refine G.label ?_) | ((with_reducible show GL _ _ _ _ (_ :: _) _ _ _ _); first | refine GL.p ?_ | refine GL.pK ?_ | refine GL.store ?_ | refine GL.storeN ?_ | refine GL.boxA (fun g => ?_) | refine GL.box1 (fun g => ?_) | refine GL.alloc1 rfl (fun g => ?_) | refine GL.allocA (fun g => ?_) | refine GL.no ?_) | ((with_reducible show G _ _ _ (Item.code (Code.cond _ _ _) :: _) _ _ _); first | refine G.condT rfl ?_ | refine G.condF rfl ?_ | refine G.condYes rfl (by omega) ?_ | refine G.condNo rfl (by omega) ?_) | (with_reducible refine G.exit rfl ?_))
        refine G.retS (h' := [rdE gR z ri false]) (v := .tuple #[TabD.v ⟨a.1, (a.1 : Int) + b.1 - 1, ⟨A, b.1, b.1⟩, rl⟩, .bool false]) ok (resNc1 rfl rfl rfl rfl rfl (by (repeat (first | exact List.Mem.head _ | apply List.Mem.tail)))) (by (first | exact Split.refl _ | ((try dsimp only); repeat (first | exact Split.nil | (apply Split.cons; (repeat (first | exact Pick.head | apply Pick.tail))))))) ?_
        exact ⟨⟨a.1, (a.1 : Int) + b.1 - 1, ⟨A, b.1, b.1⟩, rl⟩, false, rfl, by rw [hone], ⟨fun h => by simp at h, fun h => absurd h.2 hk⟩, ht, by rw [hone]⟩
end Go.Proofs.Ytnndjobhcncanaa
