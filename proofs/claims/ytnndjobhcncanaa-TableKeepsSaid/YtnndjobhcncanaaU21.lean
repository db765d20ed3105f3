/- Tables as bytes: read. No statement of the seat is proved here. -/
import Derived.Test.YtnndjobhcncanaaU20
namespace Go.Proofs.Ytnndjobhcncanaa
open Go.RowKit
abbrev con := Int × Int × List Int
def rdS (z : ByteArray) : Nat → List con × Nat
  | 0 => ([], 0)
  | j + 1 => ((rdS z j).1 ++ [(oneR z (rdS z j).2 false z.size).1], (oneR z (rdS z j).2 false z.size).2.1)
def fineR (z : ByteArray) (j : Nat) : Prop := (oneR z (rdS z j).2 false z.size).2.2 = false ∧ okC (oneR z (rdS z j).2 false z.size).1
def allR (z : ByteArray) : Prop := (∀ j, j < 3 → fineR z j) ∧ (rdS z 3).2 = z.size
def ReadIs (z : ByteArray) (l : List TabD) (e : Int) : Prop := (allR z ∧ l.map TabD.con = (rdS z 3).1 ∧ e = 0) ∨ (¬ allR z ∧ l = [] ∧ e = 70)
theorem oneR_in {z : ByteArray} {i : Nat} {bad : Bool} {most : Nat} (h : i ≤ z.size) : (oneR z i bad most).2.1 ≤ z.size ∧ (oneR z i bad most).1.2.2.length ≤ most := by
  have hzl := bytes_len z
  have ha1 := rdNum_in (l := z.data.toList) (i := i) (bad := bad) (a := 0) (b := 1048576) (by omega) (by omega)
  have hb1 := rdNum_in (l := z.data.toList) (i := (rdNum z.data.toList i bad 0 1048576).2.1) (bad := (rdNum z.data.toList i bad 0 1048576).2.2) (a := 1) (b := most) (by omega) (by omega)
  obtain ⟨h1, h2, h3, h4⟩ := rdC_in (z := z) (i := (rdNum z.data.toList (rdNum z.data.toList i bad 0 1048576).2.1 (rdNum z.data.toList i bad 0 1048576).2.2 1 most).2.1) (bad := (rdNum z.data.toList (rdNum z.data.toList i bad 0 1048576).2.1 (rdNum z.data.toList i bad 0 1048576).2.2 1 most).2.2) (by omega) (rdNum z.data.toList (rdNum z.data.toList i bad 0 1048576).2.1 (rdNum z.data.toList i bad 0 1048576).2.2 1 most).1
  refine ⟨h4, ?_⟩
  show (rdC _ _ _ _).1.length ≤ most
  omega
theorem rdS_in {z : ByteArray} : ∀ j, (rdS z j).2 ≤ z.size
  | 0 => Nat.zero_le _
  | j + 1 => (oneR_in (rdS_in j)).1
theorem ReadIs.small {z : ByteArray} {l : List TabD} {e : Int} (h : ReadIs z l e) : ∀ t ∈ l, t.l.length ≤ z.size := by
  rcases h with ⟨_, h, _⟩ | ⟨_, rfl, _⟩
  · intro t ht
    have h1 : t.con ∈ (rdS z 3).1 := h ▸ List.mem_map_of_mem ht
    simp only [rdS, List.nil_append, List.mem_append, List.mem_singleton] at h1
    rcases h1 with (h1 | h1) | h1
    · have := (oneR_in (z := z) (i := 0) (bad := false) (most := z.size) (Nat.zero_le _)).2
      rw [← h1] at this
      exact this
    · have := (oneR_in (z := z) (i := (rdS z 1).2) (bad := false) (most := z.size) (rdS_in 1)).2
      simp only [rdS, List.nil_append] at this
      rw [← h1] at this
      exact this
    · have := (oneR_in (z := z) (i := (rdS z 2).2) (bad := false) (most := z.size) (rdS_in 2)).2
      simp only [rdS, List.nil_append] at this
      rw [← h1] at this
      exact this
  · intro t ht
    simp at ht
theorem Ts.nil (s : Store) : Ts s ⟨none, 0, 0⟩ [] := ⟨Sl.nil s 3, fun t ht => by simp at ht⟩
theorem tenc_snoc (l : List TabD) (t : TabD) : l.flatMap TabD.enc ++ [Value.int .i64 t.st, .int .i64 t.en, .slice t.h.A t.h.n t.h.c] = (l ++ [t]).flatMap TabD.enc := by simp [TabD.enc]
set_option maxRecDepth 20000 in
set_option maxHeartbeats 16000000 in
theorem readT_calls (z : ByteArray) (s : Store) (hz : z.size ≤ 100000) : Fn Try.prog 30 #[.string z] s [] (fun e s' h' => ∃ h l x, e = .returned (.tuple #[.slice h.A h.n h.c, .int .i64 x]) ∧ Ts s' h l ∧ ReadIs z l x ∧ h' = []) := by
  refine Fn.intro (args := [.string z]) Try.func30 rfl Try.ntmps30 (Nat.le_of_ble_eq_true rfl) (fun C ok hh => ?_)
  repeat (first | (with_reducible first | refine GL.nil ?_ | refine G.region ?_ | refine G.seq ?_ | refine G.skip ?_ | refine G.block ?_ | refine G.inBlock ?_ | refine G.label ?_) | ((with_reducible show GL _ _ _ _ (_ :: _) _ _ _ _); first | refine GL.p ?_ | refine GL.pK ?_ | refine GL.store ?_ | refine GL.storeN ?_ | refine GL.boxA (fun g => ?_) | refine GL.box1 (fun g => ?_) | refine GL.alloc1 rfl (fun g => ?_) | refine GL.allocA (fun g => ?_) | refine GL.no ?_) | ((with_reducible show G _ _ _ (Item.code (Code.cond _ _ _) :: _) _ _ _); first | refine G.condT rfl ?_ | refine G.condF rfl ?_ | refine G.condYes rfl (by omega) ?_ | refine G.condNo rfl (by omega) ?_) | (with_reducible refine G.exit rfl ?_))
  refine GL.call rfl rfl (New_calls z s) .nil fun v s1 h1 hq hle => ?_
  obtain ⟨g, e1, hs1, rfl⟩ := hq
  subst s1
  cases e1
  repeat (first | (with_reducible first | refine GL.nil ?_ | refine G.region ?_ | refine G.seq ?_ | refine G.skip ?_ | refine G.block ?_ | refine G.inBlock ?_ | refine G.label ?_) | ((with_reducible show GL _ _ _ _ (_ :: _) _ _ _ _); first | refine GL.p ?_ | refine GL.pK ?_ | refine GL.store ?_ | refine GL.storeN ?_ | refine GL.boxA (fun g => ?_) | refine GL.box1 (fun g => ?_) | refine GL.alloc1 rfl (fun g => ?_) | refine GL.allocA (fun g => ?_) | refine GL.no ?_) | ((with_reducible show G _ _ _ (Item.code (Code.cond _ _ _) :: _) _ _ _); first | refine G.condT rfl ?_ | refine G.condF rfl ?_ | refine G.condYes rfl (by omega) ?_ | refine G.condNo rfl (by omega) ?_) | (with_reducible refine G.exit rfl ?_))
  refine G.nilbuf 33 3 ?_
  refine G.loop (fun x : Nat × Option Addr × Nat × List TabD => [(0, .string z), (2, .slice x.2.1 x.1 x.2.2.1), (4, .pointer (some ⟨g, 0, none⟩)), (9, .int .i64 x.1)])
    (fun x => [rdE g z (rdS z x.1).2 false, .buf (.slice x.2.1 x.1 x.2.2.1) 33 3 x.1 (x.2.2.2.flatMap TabD.enc)])
    (fun x s' => s.le s' ∧ x.1 ≤ 3 ∧ x.2.2.2.map TabD.con = (rdS z x.1).1 ∧ (∀ t ∈ x.2.2.2, t.laid s') ∧ ∀ j, j < x.1 → fineR z j) (fun x => 3 - x.1) (0, none, 0, []) (by ((repeat' (first | exact trivial | refine And.intro ?_ ?_)); all_goals (first | (refine congrArg some (congrArg (Value.int _) ?_); (try dsimp only); omega) | exact rfl))) (by (first | exact Split.refl _ | ((try dsimp only); repeat (first | exact Split.nil | (apply Split.cons; (repeat (first | exact Pick.head | apply Pick.tail))))))) ⟨Store.le.refl _, Nat.zero_le _, rfl, fun t ht => by simp at ht, fun j hj => by dsimp only at hj; omega⟩ ?_
  rintro ⟨j, A, c, l⟩ s3 ⟨hle3, hj, hm, hlaid, hfine⟩ ih
  dsimp only at hj hm hlaid hfine ⊢
  have hin := rdS_in (z := z) j
  by_cases hlt : (j : Int) < 3
  · have hstep : rdS z (j + 1) = ((rdS z j).1 ++ [(oneR z (rdS z j).2 false z.size).1], (oneR z (rdS z j).2 false z.size).2.1) := rfl
    have hfj : fineR z j ↔ ((oneR z (rdS z j).2 false z.size).2.2 = false ∧ okC (oneR z (rdS z j).2 false z.size).1) := Iff.rfl
    repeat (first | (with_reducible first | refine GL.nil ?_ | refine G.region ?_ | refine G.seq ?_ | refine G.skip ?_ | refine G.block ?_ | refine G.inBlock ?_ | refine G.label ?_) | ((with_reducible show GL _ _ _ _ (_ :: _) _ _ _ _); first | refine GL.p ?_ | refine GL.pK ?_ | refine GL.store ?_ | refine GL.storeN ?_ | refine GL.boxA (fun g => ?_) | refine GL.box1 (fun g => ?_) | refine GL.alloc1 rfl (fun g => ?_) | refine GL.allocA (fun g => ?_) | refine GL.no ?_) | ((with_reducible show G _ _ _ (Item.code (Code.cond _ _ _) :: _) _ _ _); first | refine G.condT rfl ?_ | refine G.condF rfl ?_ | refine G.condYes rfl (by omega) ?_ | refine G.condNo rfl (by omega) ?_) | (with_reducible refine G.exit rfl ?_))
    refine GL.call rfl rfl (one_calls g z (rdS z j).2 false z.size _ hin hz hz) (by (first | exact Split.refl _ | ((try dsimp only); repeat (first | exact Split.nil | (apply Split.cons; (repeat (first | exact Pick.head | apply Pick.tail))))))) fun v s4 h1 hp hle4 => ?_
    obtain ⟨t, b, e1, hcon, hb, ht, rfl⟩ := hp
    cases e1
    have hti := TabD.ok_iff ht.ilen
    rw [hcon] at hti
    cases b with
    | false =>
      repeat (first | (with_reducible first | refine GL.nil ?_ | refine G.region ?_ | refine G.seq ?_ | refine G.skip ?_ | refine G.block ?_ | refine G.inBlock ?_ | refine G.label ?_) | ((with_reducible show GL _ _ _ _ (_ :: _) _ _ _ _); first | refine GL.p ?_ | refine GL.pK ?_ | refine GL.store ?_ | refine GL.storeN ?_ | refine GL.boxA (fun g => ?_) | refine GL.box1 (fun g => ?_) | refine GL.alloc1 rfl (fun g => ?_) | refine GL.allocA (fun g => ?_) | refine GL.no ?_) | ((with_reducible show G _ _ _ (Item.code (Code.cond _ _ _) :: _) _ _ _); first | refine G.condT rfl ?_ | refine G.condF rfl ?_ | refine G.condYes rfl (by omega) ?_ | refine G.condNo rfl (by omega) ?_) | (with_reducible refine G.exit rfl ?_))
      refine G.sub .nil ?_
      refine G.ret2 ok rfl ?_
      refine ⟨⟨none, 0, 0⟩, [], 70, rfl, Ts.nil _, .inr ⟨fun ha => ?_, rfl, rfl⟩, rfl⟩
      have h5 := hfj.1 (ha.1 j (by omega))
      have := hb.2 ⟨h5.1, hti.2 h5.2⟩
      simp at this
    | true =>
      obtain ⟨hb1, hb2⟩ := hb.1 rfl
      have hfj' : fineR z j := ⟨hb1, hti.1 hb2⟩
      rw [hb1]
      generalize oneR z (rdS z j).2 false z.size = R at hcon hstep
      obtain ⟨rc, ri, rb⟩ := R
      dsimp only at hcon hstep ⊢
      repeat (first | (with_reducible first | refine GL.nil ?_ | refine G.region ?_ | refine G.seq ?_ | refine G.skip ?_ | refine G.block ?_ | refine G.inBlock ?_ | refine G.label ?_) | ((with_reducible show GL _ _ _ _ (_ :: _) _ _ _ _); first | refine GL.p ?_ | refine GL.pK ?_ | refine GL.store ?_ | refine GL.storeN ?_ | refine GL.boxA (fun g => ?_) | refine GL.box1 (fun g => ?_) | refine GL.alloc1 rfl (fun g => ?_) | refine GL.allocA (fun g => ?_) | refine GL.no ?_) | ((with_reducible show G _ _ _ (Item.code (Code.cond _ _ _) :: _) _ _ _); first | refine G.condT rfl ?_ | refine G.condF rfl ?_ | refine G.condYes rfl (by omega) ?_ | refine G.condNo rfl (by omega) ?_) | (with_reducible refine G.exit rfl ?_))
      refine GL.re 21 (.agg [Value.int .i64 t.st, .int .i64 t.en, .slice t.h.A t.h.n t.h.c].toArray) ?_
      refine GL.litA rfl fun A1 s5 hle5 hs5 => ?_
      refine GL.appS rfl rfl (Src.of_sl hs5 (by simp [Value.oneCell'])) (by (try dsimp only); omega) (by (try dsimp only); omega) fun A2 c2 => ?_
      rw [tenc_snoc]
      repeat (first | (with_reducible first | refine GL.nil ?_ | refine G.region ?_ | refine G.seq ?_ | refine G.skip ?_ | refine G.block ?_ | refine G.inBlock ?_ | refine G.label ?_) | ((with_reducible show GL _ _ _ _ (_ :: _) _ _ _ _); first | refine GL.p ?_ | refine GL.pK ?_ | refine GL.store ?_ | refine GL.storeN ?_ | refine GL.boxA (fun g => ?_) | refine GL.box1 (fun g => ?_) | refine GL.alloc1 rfl (fun g => ?_) | refine GL.allocA (fun g => ?_) | refine GL.no ?_) | ((with_reducible show G _ _ _ (Item.code (Code.cond _ _ _) :: _) _ _ _); first | refine G.condT rfl ?_ | refine G.condF rfl ?_ | refine G.condYes rfl (by omega) ?_ | refine G.condNo rfl (by omega) ?_) | (with_reducible refine G.exit rfl ?_))
      refine ih (j + 1, A2, c2, l ++ [t]) _ _ _ _ (by ((repeat' (first | exact trivial | refine And.intro ?_ ?_)); all_goals (first | (refine congrArg some (congrArg (Value.int _) ?_); (try dsimp only); omega) | exact rfl))) (by rw [hstep]; (first | exact Split.refl _ | ((try dsimp only); repeat (first | exact Split.nil | (apply Split.cons; (repeat (first | exact Pick.head | apply Pick.tail))))))) ⟨hle3.trans (hle4.trans hle5), by dsimp only; omega, by rw [hstep, List.map_append, hm, ← hcon]; rfl, ?_, ?_⟩ (by dsimp only; omega)
      · intro u hu
        rcases List.mem_append.1 hu with h' | h'
        · exact (hlaid u h').le (hle4.trans hle5)
        · obtain rfl : u = t := by simpa using h'
          exact ht.le hle5
      · intro k hk
        by_cases hkj : k = j
        · exact hkj ▸ hfj'
        · exact hfine k (by dsimp only at hk; omega)
  · obtain rfl : j = 3 := by omega
    refine G.freezeBuf (by (repeat (first | exact Pick.head | apply Pick.tail))) fun s4 hle4 hs4 => ?_
    have hall : allR z ↔ (rdS z 3).2 = z.size := ⟨fun h => h.2, fun h => ⟨hfine, h⟩⟩
    generalize hR : rdS z 3 = R at hm hin hall ⊢
    obtain ⟨rc, ri⟩ := R
    dsimp only at hm hin hall ⊢
    repeat (first | (with_reducible first | refine GL.nil ?_ | refine G.region ?_ | refine G.seq ?_ | refine G.skip ?_ | refine G.block ?_ | refine G.inBlock ?_ | refine G.label ?_) | ((with_reducible show GL _ _ _ _ (_ :: _) _ _ _ _); first | refine GL.p ?_ | refine GL.pK ?_ | refine GL.store ?_ | refine GL.storeN ?_ | refine GL.boxA (fun g => ?_) | refine GL.box1 (fun g => ?_) | refine GL.alloc1 rfl (fun g => ?_) | refine GL.allocA (fun g => ?_) | refine GL.no ?_) | ((with_reducible show G _ _ _ (Item.code (Code.cond _ _ _) :: _) _ _ _); first | refine G.condT rfl ?_ | refine G.condF rfl ?_ | refine G.condYes rfl (by omega) ?_ | refine G.condNo rfl (by omega) ?_) | (with_reducible refine G.exit rfl ?_))
    refine GL.call rfl rfl (End_calls g z ri false _) (by (first | exact Split.refl _ | ((try dsimp only); repeat (first | exact Split.nil | (apply Split.cons; (repeat (first | exact Pick.head | apply Pick.tail))))))) fun v s5 h1 hp hle5 => ?_
    obtain ⟨e1, hs5, rfl⟩ := hp
    subst s5
    cases e1
    by_cases hend : ri = z.size
    · rw [rdEnd, if_pos ⟨rfl, hend⟩]
      repeat (first | (with_reducible first | refine GL.nil ?_ | refine G.region ?_ | refine G.seq ?_ | refine G.skip ?_ | refine G.block ?_ | refine G.inBlock ?_ | refine G.label ?_) | ((with_reducible show GL _ _ _ _ (_ :: _) _ _ _ _); first | refine GL.p ?_ | refine GL.pK ?_ | refine GL.store ?_ | refine GL.storeN ?_ | refine GL.boxA (fun g => ?_) | refine GL.box1 (fun g => ?_) | refine GL.alloc1 rfl (fun g => ?_) | refine GL.allocA (fun g => ?_) | refine GL.no ?_) | ((with_reducible show G _ _ _ (Item.code (Code.cond _ _ _) :: _) _ _ _); first | refine G.condT rfl ?_ | refine G.condF rfl ?_ | refine G.condYes rfl (by omega) ?_ | refine G.condNo rfl (by omega) ?_) | (with_reducible refine G.exit rfl ?_))
      refine G.sub .nil ?_
      refine G.ret2 ok rfl ?_
      exact ⟨⟨A, 3, c⟩, l, 0, rfl, ⟨hs4, fun t ht => (hlaid t ht).le hle4⟩, .inl ⟨hall.2 hend, by rw [hR]; exact hm, rfl⟩, rfl⟩
    · rw [rdEnd, if_neg (fun h => hend h.2)]
      repeat (first | (with_reducible first | refine GL.nil ?_ | refine G.region ?_ | refine G.seq ?_ | refine G.skip ?_ | refine G.block ?_ | refine G.inBlock ?_ | refine G.label ?_) | ((with_reducible show GL _ _ _ _ (_ :: _) _ _ _ _); first | refine GL.p ?_ | refine GL.pK ?_ | refine GL.store ?_ | refine GL.storeN ?_ | refine GL.boxA (fun g => ?_) | refine GL.box1 (fun g => ?_) | refine GL.alloc1 rfl (fun g => ?_) | refine GL.allocA (fun g => ?_) | refine GL.no ?_) | ((with_reducible show G _ _ _ (Item.code (Code.cond _ _ _) :: _) _ _ _); first | refine G.condT rfl ?_ | refine G.condF rfl ?_ | refine G.condYes rfl (by omega) ?_ | refine G.condNo rfl (by omega) ?_) | (with_reducible refine G.exit rfl ?_))
      refine G.sub .nil ?_
      refine G.ret2 ok rfl ?_
      exact ⟨⟨none, 0, 0⟩, [], 70, rfl, Ts.nil _, .inr ⟨fun ha => hend (hall.1 ha), rfl, rfl⟩, rfl⟩
set_option maxRecDepth 20000 in
set_option maxHeartbeats 16000000 in
theorem readTR_calls (z : ByteArray) (s : Store) (hz : z.size ≤ 100000) : Fn Try.prog 31 #[.string z] s [] (fun e s' h' => ∃ h l x, e = .returned (.tuple #[.slice h.A h.n h.c, .int .i64 x]) ∧ Ts s' h l ∧ ReadIs z l x ∧ h' = []) := by
  have hzl := bytes_len z
  refine Fn.intro (args := [.string z]) Try.func31 rfl Try.ntmps31 (Nat.le_of_ble_eq_true rfl) (fun C ok hh => ?_)
  repeat (first | (with_reducible first | refine GL.nil ?_ | refine G.region ?_ | refine G.seq ?_ | refine G.skip ?_ | refine G.block ?_ | refine G.inBlock ?_ | refine G.label ?_) | ((with_reducible show GL _ _ _ _ (_ :: _) _ _ _ _); first | refine GL.p ?_ | refine GL.pK ?_ | refine GL.store ?_ | refine GL.storeN ?_ | refine GL.boxA (fun g => ?_) | refine GL.box1 (fun g => ?_) | refine GL.alloc1 rfl (fun g => ?_) | refine GL.allocA (fun g => ?_) | refine GL.no ?_) | ((with_reducible show G _ _ _ (Item.code (Code.cond _ _ _) :: _) _ _ _); first | refine G.condT rfl ?_ | refine G.condF rfl ?_ | refine G.condYes rfl (by omega) ?_ | refine G.condNo rfl (by omega) ?_) | (with_reducible refine G.exit rfl ?_))
  refine GL.call rfl rfl (NewR_calls z s) .nil fun v s1 h1 hq hle => ?_
  obtain ⟨g0, e1, hs1, rfl⟩ := hq
  subst s1
  cases e1
  repeat (first | (with_reducible first | refine GL.nil ?_ | refine G.region ?_ | refine G.seq ?_ | refine G.skip ?_ | refine G.block ?_ | refine G.inBlock ?_ | refine G.label ?_) | ((with_reducible show GL _ _ _ _ (_ :: _) _ _ _ _); first | refine GL.p ?_ | refine GL.pK ?_ | refine GL.store ?_ | refine GL.storeN ?_ | refine GL.boxA (fun g => ?_) | refine GL.box1 (fun g => ?_) | refine GL.alloc1 rfl (fun g => ?_) | refine GL.allocA (fun g => ?_) | refine GL.no ?_) | ((with_reducible show G _ _ _ (Item.code (Code.cond _ _ _) :: _) _ _ _); first | refine G.condT rfl ?_ | refine G.condF rfl ?_ | refine G.condYes rfl (by omega) ?_ | refine G.condNo rfl (by omega) ?_) | (with_reducible refine G.exit rfl ?_))
  refine G.nilbuf 33 3 ?_
  refine G.loop (fun x : Nat × Option Addr × Nat × List TabD => [(0, .string z), (5, .slice x.2.1 x.1 x.2.2.1), (4, .pointer (some ⟨g0, 0, none⟩)), (6, .int .i64 x.1)])
    (fun x => [rdF g0 z (rdS z x.1).2 false, .buf (.slice x.2.1 x.1 x.2.2.1) 33 3 x.1 (x.2.2.2.flatMap TabD.enc)])
    (fun x s' => s.le s' ∧ x.1 ≤ 3 ∧ x.2.2.2.map TabD.con = (rdS z x.1).1 ∧ (∀ t ∈ x.2.2.2, t.laid s') ∧ ∀ j, j < x.1 → fineR z j) (fun x => 3 - x.1) (0, none, 0, []) (by ((repeat' (first | exact trivial | refine And.intro ?_ ?_)); all_goals (first | (refine congrArg some (congrArg (Value.int _) ?_); (try dsimp only); omega) | exact rfl))) (by (first | exact Split.refl _ | ((try dsimp only); repeat (first | exact Split.nil | (apply Split.cons; (repeat (first | exact Pick.head | apply Pick.tail))))))) ⟨Store.le.refl _, Nat.zero_le _, rfl, fun t ht => by simp at ht, fun j hj => by dsimp only at hj; omega⟩ ?_
  rintro ⟨j, A, c, l⟩ s3 ⟨hle3, hj, hm, hlaid, hfine⟩ ih
  dsimp only at hj hm hlaid hfine ⊢
  have hin := rdS_in (z := z) j
  by_cases hlt : (j : Int) < 3
  · have hstep : rdS z (j + 1) = ((rdS z j).1 ++ [(oneR z (rdS z j).2 false z.size).1], (oneR z (rdS z j).2 false z.size).2.1) := rfl
    have hfj : fineR z j ↔ ((oneR z (rdS z j).2 false z.size).2.2 = false ∧ okC (oneR z (rdS z j).2 false z.size).1) := Iff.rfl
    generalize (rdS z j).2 = i0 at hin hstep hfj ⊢
    repeat (first | (with_reducible first | refine GL.nil ?_ | refine G.region ?_ | refine G.seq ?_ | refine G.skip ?_ | refine G.block ?_ | refine G.inBlock ?_ | refine G.label ?_) | ((with_reducible show GL _ _ _ _ (_ :: _) _ _ _ _); first | refine GL.p ?_ | refine GL.pK ?_ | refine GL.store ?_ | refine GL.storeN ?_ | refine GL.boxA (fun g => ?_) | refine GL.box1 (fun g => ?_) | refine GL.alloc1 rfl (fun g => ?_) | refine GL.allocA (fun g => ?_) | refine GL.no ?_) | ((with_reducible show G _ _ _ (Item.code (Code.cond _ _ _) :: _) _ _ _); first | refine G.condT rfl ?_ | refine G.condF rfl ?_ | refine G.condYes rfl (by omega) ?_ | refine G.condNo rfl (by omega) ?_) | (with_reducible refine G.exit rfl ?_))
    refine GL.call rfl rfl (NumberR_calls g0 z i0 false 0 1048576 _ hin (by omega)) (by (first | exact Split.refl _ | ((try dsimp only); repeat (first | exact Split.nil | (apply Split.cons; (repeat (first | exact Pick.head | apply Pick.tail))))))) fun v s4 h1 hp hle4 => ?_
    obtain ⟨e1, rfl⟩ := hp
    cases e1
    have ha1 := rdNum_in (l := z.data.toList) (i := i0) (bad := false) (a := 0) (b := 1048576) (by omega) (by omega)
    generalize hA : rdNum z.data.toList i0 false 0 1048576 = a at ha1 ⊢
    repeat (first | (with_reducible first | refine GL.nil ?_ | refine G.region ?_ | refine G.seq ?_ | refine G.skip ?_ | refine G.block ?_ | refine G.inBlock ?_ | refine G.label ?_) | ((with_reducible show GL _ _ _ _ (_ :: _) _ _ _ _); first | refine GL.p ?_ | refine GL.pK ?_ | refine GL.store ?_ | refine GL.storeN ?_ | refine GL.boxA (fun g => ?_) | refine GL.box1 (fun g => ?_) | refine GL.alloc1 rfl (fun g => ?_) | refine GL.allocA (fun g => ?_) | refine GL.no ?_) | ((with_reducible show G _ _ _ (Item.code (Code.cond _ _ _) :: _) _ _ _); first | refine G.condT rfl ?_ | refine G.condF rfl ?_ | refine G.condYes rfl (by omega) ?_ | refine G.condNo rfl (by omega) ?_) | (with_reducible refine G.exit rfl ?_))
    rw [if_pos (by omega)]
    refine GL.call rfl rfl (NumberR_calls g0 z a.2.1 a.2.2 1 z.size _ (by omega) (by omega)) (by (first | exact Split.refl _ | ((try dsimp only); repeat (first | exact Split.nil | (apply Split.cons; (repeat (first | exact Pick.head | apply Pick.tail))))))) fun v s5 h1 hp hle5 => ?_
    obtain ⟨e1, rfl⟩ := hp
    cases e1
    have hb1 := rdNum_in (l := z.data.toList) (i := a.2.1) (bad := a.2.2) (a := 1) (b := z.size) (by omega) (by omega)
    generalize hB : rdNum z.data.toList a.2.1 a.2.2 1 z.size = b at hb1 ⊢
    repeat (first | (with_reducible first | refine GL.nil ?_ | refine G.region ?_ | refine G.seq ?_ | refine G.skip ?_ | refine G.block ?_ | refine G.inBlock ?_ | refine G.label ?_) | ((with_reducible show GL _ _ _ _ (_ :: _) _ _ _ _); first | refine GL.p ?_ | refine GL.pK ?_ | refine GL.store ?_ | refine GL.storeN ?_ | refine GL.boxA (fun g => ?_) | refine GL.box1 (fun g => ?_) | refine GL.alloc1 rfl (fun g => ?_) | refine GL.allocA (fun g => ?_) | refine GL.no ?_) | ((with_reducible show G _ _ _ (Item.code (Code.cond _ _ _) :: _) _ _ _); first | refine G.condT rfl ?_ | refine G.condF rfl ?_ | refine G.condYes rfl (by omega) ?_ | refine G.condNo rfl (by omega) ?_) | (with_reducible refine G.exit rfl ?_))
    refine G.nilbuf 3 1 ?_
    refine G.loop (fun x : Nat × Option Addr × Nat => [(0, .string z), (5, .slice A j c), (4, .pointer (some ⟨g0, 0, none⟩)), (6, .int .i64 j), (9, .pointer (some ⟨g, 0, none⟩)), (10, .int .i64 (rdC z b.2.1 b.2.2 x.1).2.1), (8, .int .i64 b.1), (11, .int .i64 x.1)])
      (fun x => [rdF g0 z (rdC z b.2.1 b.2.2 x.1).2.2.1 (rdC z b.2.1 b.2.2 x.1).2.2.2, tabE g ⟨a.1, a.1 + b.1 - 1, ⟨x.2.1, x.1, x.2.2⟩, []⟩, .buf (.slice x.2.1 x.1 x.2.2) 3 1 x.1 (icells (rdC z b.2.1 b.2.2 x.1).1), .buf (.slice A j c) 33 3 j (l.flatMap TabD.enc)]) (fun x s' => s5.le s' ∧ x.1 ≤ b.1) (fun x => b.1 - x.1) (0, none, 0) (by ((repeat' (first | exact trivial | refine And.intro ?_ ?_)); all_goals (first | (refine congrArg some (congrArg (Value.int _) ?_); (try dsimp only); omega) | exact rfl))) (by (first | exact Split.refl _ | ((try dsimp only); repeat (first | exact Split.nil | (apply Split.cons; (repeat (first | exact Pick.head | apply Pick.tail))))))) ⟨Store.le.refl _, Nat.zero_le _⟩ ?_
    rintro ⟨k, A1, cc⟩ s6 ⟨hle6, hk⟩ ih2
    dsimp only at hk ⊢
    obtain ⟨hr1, hr2, hr3, hr4⟩ := rdC_in (z := z) (i := b.2.1) (bad := b.2.2) (by omega) k
    by_cases hlt2 : (k : Int) < b.1
    · have hstep2 : rdC z b.2.1 b.2.2 (k + 1) = ((rdC z b.2.1 b.2.2 k).1 ++ [(rdC z b.2.1 b.2.2 k).2.1 + (rdNum z.data.toList (rdC z b.2.1 b.2.2 k).2.2.1 (rdC z b.2.1 b.2.2 k).2.2.2 0 1048576).1], (rdC z b.2.1 b.2.2 k).2.1 + (rdNum z.data.toList (rdC z b.2.1 b.2.2 k).2.2.1 (rdC z b.2.1 b.2.2 k).2.2.2 0 1048576).1, (rdNum z.data.toList (rdC z b.2.1 b.2.2 k).2.2.1 (rdC z b.2.1 b.2.2 k).2.2.2 0 1048576).2) := rfl
      generalize rdC z b.2.1 b.2.2 k = R at hr1 hr2 hr3 hr4 hstep2 ⊢
      repeat (first | (with_reducible first | refine GL.nil ?_ | refine G.region ?_ | refine G.seq ?_ | refine G.skip ?_ | refine G.block ?_ | refine G.inBlock ?_ | refine G.label ?_) | ((with_reducible show GL _ _ _ _ (_ :: _) _ _ _ _); first | refine GL.p ?_ | refine GL.pK ?_ | refine GL.store ?_ | refine GL.storeN ?_ | refine GL.boxA (fun g => ?_) | refine GL.box1 (fun g => ?_) | refine GL.alloc1 rfl (fun g => ?_) | refine GL.allocA (fun g => ?_) | refine GL.no ?_) | ((with_reducible show G _ _ _ (Item.code (Code.cond _ _ _) :: _) _ _ _); first | refine G.condT rfl ?_ | refine G.condF rfl ?_ | refine G.condYes rfl (by omega) ?_ | refine G.condNo rfl (by omega) ?_) | (with_reducible refine G.exit rfl ?_))
      refine GL.call rfl rfl (NumberR_calls g0 z R.2.2.1 R.2.2.2 0 1048576 _ hr4 (by omega)) (by (first | exact Split.refl _ | ((try dsimp only); repeat (first | exact Split.nil | (apply Split.cons; (repeat (first | exact Pick.head | apply Pick.tail))))))) fun v s7 h1 hp hle7 => ?_
      obtain ⟨e1, rfl⟩ := hp
      cases e1
      have hn1 := rdNum_in (l := z.data.toList) (i := R.2.2.1) (bad := R.2.2.2) (a := 0) (b := 1048576) (by omega) (by omega)
      generalize rdNum z.data.toList R.2.2.1 R.2.2.2 0 1048576 = y at hn1 hstep2 ⊢
      repeat (first | (with_reducible first | refine GL.nil ?_ | refine G.region ?_ | refine G.seq ?_ | refine G.skip ?_ | refine G.block ?_ | refine G.inBlock ?_ | refine G.label ?_) | ((with_reducible show GL _ _ _ _ (_ :: _) _ _ _ _); first | refine GL.p ?_ | refine GL.pK ?_ | refine GL.store ?_ | refine GL.storeN ?_ | refine GL.boxA (fun g => ?_) | refine GL.box1 (fun g => ?_) | refine GL.alloc1 rfl (fun g => ?_) | refine GL.allocA (fun g => ?_) | refine GL.no ?_) | ((with_reducible show G _ _ _ (Item.code (Code.cond _ _ _) :: _) _ _ _); first | refine G.condT rfl ?_ | refine G.condF rfl ?_ | refine G.condYes rfl (by omega) ?_ | refine G.condNo rfl (by omega) ?_) | (with_reducible refine G.exit rfl ?_))
      refine GL.lit1 rfl fun A2 s8 hle8 hs8 => ?_
      refine GL.appS rfl rfl (Src.of_sl hs8 (by simp [Value.oneCell'])) (by (try dsimp only); omega) (by (try dsimp only); omega) fun A3 c3 => ?_
      rw [icells_snoc]
      repeat (first | (with_reducible first | refine GL.nil ?_ | refine G.region ?_ | refine G.seq ?_ | refine G.skip ?_ | refine G.block ?_ | refine G.inBlock ?_ | refine G.label ?_) | ((with_reducible show GL _ _ _ _ (_ :: _) _ _ _ _); first | refine GL.p ?_ | refine GL.pK ?_ | refine GL.store ?_ | refine GL.storeN ?_ | refine GL.boxA (fun g => ?_) | refine GL.box1 (fun g => ?_) | refine GL.alloc1 rfl (fun g => ?_) | refine GL.allocA (fun g => ?_) | refine GL.no ?_) | ((with_reducible show G _ _ _ (Item.code (Code.cond _ _ _) :: _) _ _ _); first | refine G.condT rfl ?_ | refine G.condF rfl ?_ | refine G.condYes rfl (by omega) ?_ | refine G.condNo rfl (by omega) ?_) | (with_reducible refine G.exit rfl ?_))
      refine ih2 (k + 1, A3, c3) _ _ _ _ (by rw [hstep2]; ((repeat' (first | exact trivial | refine And.intro ?_ ?_)); all_goals (first | (refine congrArg some (congrArg (Value.int _) ?_); (try dsimp only); omega) | exact rfl))) (by rw [hstep2]; (first | exact Split.refl _ | ((try dsimp only); repeat (first | exact Split.nil | (apply Split.cons; (repeat (first | exact Pick.head | apply Pick.tail))))))) ⟨hle6.trans (hle7.trans hle8), by dsimp only; omega⟩ (by dsimp only; omega)
    · obtain rfl : k = b.1 := by omega
      have hone := oneR_eq (most := z.size) hA hB rfl
      rw [hone] at hstep hfj
      generalize rdC z b.2.1 b.2.2 b.1 = R at hr1 hr2 hr3 hr4 hone hstep hfj ⊢
      obtain ⟨rl, rlast, ri, rbad⟩ := R
      dsimp only at hr1 hr2 hr3 hr4 hone hstep hfj ⊢
      refine G.freezeBuf (A := A1) (by (repeat (first | exact Pick.head | apply Pick.tail))) fun s7 hle7 hs7 => ?_
      have hcap := hs7.cap
      have hlenR := hs7.ilen
      have ht : TabD.laid s7 ⟨a.1, (a.1 : Int) + b.1 - 1, ⟨A1, b.1, cc⟩, rl⟩ := hs7
      have hti := TabD.ok_iff ht.ilen
      have hle37 := hle4.trans (hle5.trans (hle6.trans hle7))
      cases rbad with
      | true =>
        repeat (first | (with_reducible first | refine GL.nil ?_ | refine G.region ?_ | refine G.seq ?_ | refine G.skip ?_ | refine G.block ?_ | refine G.inBlock ?_ | refine G.label ?_) | ((with_reducible show GL _ _ _ _ (_ :: _) _ _ _ _); first | refine GL.p ?_ | refine GL.pK ?_ | refine GL.store ?_ | refine GL.storeN ?_ | refine GL.boxA (fun g => ?_) | refine GL.box1 (fun g => ?_) | refine GL.alloc1 rfl (fun g => ?_) | refine GL.allocA (fun g => ?_) | refine GL.no ?_) | ((with_reducible show G _ _ _ (Item.code (Code.cond _ _ _) :: _) _ _ _); first | refine G.condT rfl ?_ | refine G.condF rfl ?_ | refine G.condYes rfl (by omega) ?_ | refine G.condNo rfl (by omega) ?_) | (with_reducible refine G.exit rfl ?_))
        refine G.sub .nil ?_
        refine G.ret2 ok rfl ?_
        refine ⟨⟨none, 0, 0⟩, [], 70, rfl, Ts.nil _, .inr ⟨fun ha => ?_, rfl, rfl⟩, rfl⟩
        have h5 := (hfj.1 (ha.1 j (by omega))).1
        simp at h5
      | false =>
        repeat (first | (with_reducible first | refine GL.nil ?_ | refine G.region ?_ | refine G.seq ?_ | refine G.skip ?_ | refine G.block ?_ | refine G.inBlock ?_ | refine G.label ?_) | ((with_reducible show GL _ _ _ _ (_ :: _) _ _ _ _); first | refine GL.p ?_ | refine GL.pK ?_ | refine GL.store ?_ | refine GL.storeN ?_ | refine GL.boxA (fun g => ?_) | refine GL.box1 (fun g => ?_) | refine GL.alloc1 rfl (fun g => ?_) | refine GL.allocA (fun g => ?_) | refine GL.no ?_) | ((with_reducible show G _ _ _ (Item.code (Code.cond _ _ _) :: _) _ _ _); first | refine G.condT rfl ?_ | refine G.condF rfl ?_ | refine G.condYes rfl (by omega) ?_ | refine G.condNo rfl (by omega) ?_) | (with_reducible refine G.exit rfl ?_))
        refine GL.call rfl rfl (tcheckR_calls ⟨a.1, (a.1 : Int) + b.1 - 1, ⟨A1, b.1, cc⟩, rl⟩ _ ht) .nil fun v s8 h1' hq hle8 => ?_
        obtain ⟨x, e1, hx, hs8, rfl⟩ := hq
        subst s8
        cases e1
        rw [List.nil_append]
        rcases hx with ⟨rfl, hk⟩ | ⟨rfl, hk⟩
        rotate_left
        · repeat (first | (with_reducible first | refine GL.nil ?_ | refine G.region ?_ | refine G.seq ?_ | refine G.skip ?_ | refine G.block ?_ | refine G.inBlock ?_ | refine G.label ?_) | ((with_reducible show GL _ _ _ _ (_ :: _) _ _ _ _); first | refine GL.p ?_ | refine GL.pK ?_ | refine GL.store ?_ | refine GL.storeN ?_ | refine GL.boxA (fun g => ?_) | refine GL.box1 (fun g => ?_) | refine GL.alloc1 rfl (fun g => ?_) | refine GL.allocA (fun g => ?_) | refine GL.no ?_) | ((with_reducible show G _ _ _ (Item.code (Code.cond _ _ _) :: _) _ _ _); first | refine G.condT rfl ?_ | refine G.condF rfl ?_ | refine G.condYes rfl (by omega) ?_ | refine G.condNo rfl (by omega) ?_) | (with_reducible refine G.exit rfl ?_))
          refine G.sub .nil ?_
          refine G.ret2 ok rfl ?_
          refine ⟨⟨none, 0, 0⟩, [], 70, rfl, Ts.nil _, .inr ⟨fun ha => ?_, rfl, rfl⟩, rfl⟩
          exact hk (hti.2 (hfj.1 (ha.1 j (by omega))).2)
        repeat (first | (with_reducible first | refine GL.nil ?_ | refine G.region ?_ | refine G.seq ?_ | refine G.skip ?_ | refine G.block ?_ | refine G.inBlock ?_ | refine G.label ?_) | ((with_reducible show GL _ _ _ _ (_ :: _) _ _ _ _); first | refine GL.p ?_ | refine GL.pK ?_ | refine GL.store ?_ | refine GL.storeN ?_ | refine GL.boxA (fun g => ?_) | refine GL.box1 (fun g => ?_) | refine GL.alloc1 rfl (fun g => ?_) | refine GL.allocA (fun g => ?_) | refine GL.no ?_) | ((with_reducible show G _ _ _ (Item.code (Code.cond _ _ _) :: _) _ _ _); first | refine G.condT rfl ?_ | refine G.condF rfl ?_ | refine G.condYes rfl (by omega) ?_ | refine G.condNo rfl (by omega) ?_) | (with_reducible refine G.exit rfl ?_))
        refine GL.litA rfl fun A4 s9 hle9 hs9 => ?_
        refine GL.appS rfl rfl (Src.of_sl hs9 (by simp [Value.oneCell'])) (by (try dsimp only); omega) (by (try dsimp only); omega) fun A5 c5 => ?_
        have hsn := tenc_snoc l ⟨a.1, (a.1 : Int) + b.1 - 1, ⟨A1, b.1, cc⟩, rl⟩
        dsimp only at hsn
        rw [hsn]
        repeat (first | (with_reducible first | refine GL.nil ?_ | refine G.region ?_ | refine G.seq ?_ | refine G.skip ?_ | refine G.block ?_ | refine G.inBlock ?_ | refine G.label ?_) | ((with_reducible show GL _ _ _ _ (_ :: _) _ _ _ _); first | refine GL.p ?_ | refine GL.pK ?_ | refine GL.store ?_ | refine GL.storeN ?_ | refine GL.boxA (fun g => ?_) | refine GL.box1 (fun g => ?_) | refine GL.alloc1 rfl (fun g => ?_) | refine GL.allocA (fun g => ?_) | refine GL.no ?_) | ((with_reducible show G _ _ _ (Item.code (Code.cond _ _ _) :: _) _ _ _); first | refine G.condT rfl ?_ | refine G.condF rfl ?_ | refine G.condYes rfl (by omega) ?_ | refine G.condNo rfl (by omega) ?_) | (with_reducible refine G.exit rfl ?_))
        refine ih (j + 1, A5, c5, l ++ [⟨a.1, (a.1 : Int) + b.1 - 1, ⟨A1, b.1, cc⟩, rl⟩]) _ _ _ _ (by ((repeat' (first | exact trivial | refine And.intro ?_ ?_)); all_goals (first | (refine congrArg some (congrArg (Value.int _) ?_); (try dsimp only); omega) | exact rfl))) (by rw [hstep]; (first | exact Split.refl _ | ((try dsimp only); repeat (first | exact Split.nil | (apply Split.cons; (repeat (first | exact Pick.head | apply Pick.tail))))))) ⟨hle3.trans (hle37.trans hle9), by dsimp only; omega, by rw [hstep, List.map_append, hm]; rfl, ?_, ?_⟩ (by dsimp only; omega)
        · intro u hu
          rcases List.mem_append.1 hu with h' | h'
          · exact (hlaid u h').le (hle37.trans hle9)
          · rw [List.mem_singleton] at h'
            subst h'
            exact ht.le hle9
        · intro k hk'
          by_cases hkj : k = j
          · exact hkj ▸ hfj.2 ⟨rfl, hti.1 hk⟩
          · exact hfine k (by dsimp only at hk'; omega)
  · obtain rfl : j = 3 := by omega
    refine G.freezeBuf (by (repeat (first | exact Pick.head | apply Pick.tail))) fun s4 hle4 hs4 => ?_
    have hall : allR z ↔ (rdS z 3).2 = z.size := ⟨fun h => h.2, fun h => ⟨hfine, h⟩⟩
    generalize hR : rdS z 3 = R at hm hin hall ⊢
    obtain ⟨rc, ri⟩ := R
    dsimp only at hm hin hall ⊢
    repeat (first | (with_reducible first | refine GL.nil ?_ | refine G.region ?_ | refine G.seq ?_ | refine G.skip ?_ | refine G.block ?_ | refine G.inBlock ?_ | refine G.label ?_) | ((with_reducible show GL _ _ _ _ (_ :: _) _ _ _ _); first | refine GL.p ?_ | refine GL.pK ?_ | refine GL.store ?_ | refine GL.storeN ?_ | refine GL.boxA (fun g => ?_) | refine GL.box1 (fun g => ?_) | refine GL.alloc1 rfl (fun g => ?_) | refine GL.allocA (fun g => ?_) | refine GL.no ?_) | ((with_reducible show G _ _ _ (Item.code (Code.cond _ _ _) :: _) _ _ _); first | refine G.condT rfl ?_ | refine G.condF rfl ?_ | refine G.condYes rfl (by omega) ?_ | refine G.condNo rfl (by omega) ?_) | (with_reducible refine G.exit rfl ?_))
    refine GL.call rfl rfl (EndR_calls g0 z ri false _) (by (first | exact Split.refl _ | ((try dsimp only); repeat (first | exact Split.nil | (apply Split.cons; (repeat (first | exact Pick.head | apply Pick.tail))))))) fun v s5 h1 hp hle5 => ?_
    obtain ⟨e1, hs5, rfl⟩ := hp
    subst s5
    cases e1
    by_cases hend : ri = z.size
    · rw [rdEnd, if_pos ⟨rfl, hend⟩]
      repeat (first | (with_reducible first | refine GL.nil ?_ | refine G.region ?_ | refine G.seq ?_ | refine G.skip ?_ | refine G.block ?_ | refine G.inBlock ?_ | refine G.label ?_) | ((with_reducible show GL _ _ _ _ (_ :: _) _ _ _ _); first | refine GL.p ?_ | refine GL.pK ?_ | refine GL.store ?_ | refine GL.storeN ?_ | refine GL.boxA (fun g => ?_) | refine GL.box1 (fun g => ?_) | refine GL.alloc1 rfl (fun g => ?_) | refine GL.allocA (fun g => ?_) | refine GL.no ?_) | ((with_reducible show G _ _ _ (Item.code (Code.cond _ _ _) :: _) _ _ _); first | refine G.condT rfl ?_ | refine G.condF rfl ?_ | refine G.condYes rfl (by omega) ?_ | refine G.condNo rfl (by omega) ?_) | (with_reducible refine G.exit rfl ?_))
      refine G.sub .nil ?_
      refine G.ret2 ok rfl ?_
      exact ⟨⟨A, 3, c⟩, l, 0, rfl, ⟨hs4, fun t ht => (hlaid t ht).le hle4⟩, .inl ⟨hall.2 hend, by rw [hR]; exact hm, rfl⟩, rfl⟩
    · rw [rdEnd, if_neg (fun h => hend h.2)]
      repeat (first | (with_reducible first | refine GL.nil ?_ | refine G.region ?_ | refine G.seq ?_ | refine G.skip ?_ | refine G.block ?_ | refine G.inBlock ?_ | refine G.label ?_) | ((with_reducible show GL _ _ _ _ (_ :: _) _ _ _ _); first | refine GL.p ?_ | refine GL.pK ?_ | refine GL.store ?_ | refine GL.storeN ?_ | refine GL.boxA (fun g => ?_) | refine GL.box1 (fun g => ?_) | refine GL.alloc1 rfl (fun g => ?_) | refine GL.allocA (fun g => ?_) | refine GL.no ?_) | ((with_reducible show G _ _ _ (Item.code (Code.cond _ _ _) :: _) _ _ _); first | refine G.condT rfl ?_ | refine G.condF rfl ?_ | refine G.condYes rfl (by omega) ?_ | refine G.condNo rfl (by omega) ?_) | (with_reducible refine G.exit rfl ?_))
      refine G.sub .nil ?_
      refine G.ret2 ok rfl ?_
      exact ⟨⟨none, 0, 0⟩, [], 70, rfl, Ts.nil _, .inr ⟨fun ha => hend (hall.1 ha), rfl, rfl⟩, rfl⟩
end Go.Proofs.Ytnndjobhcncanaa
