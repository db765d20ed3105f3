/- The table from a part to another, by the program and by the document. No statement of the seat is proved here. -/
import Derived.Test.YtnndjobhcncanaaU8
import Derived.Test.YtnndjobhcncanaaR3
import Derived.Test.YtnndjobhcncanaaN1
namespace Go.Proofs.Ytnndjobhcncanaa
open Go.RowKit
/-- How many of n offsets stand below x. -/
def cnt (f : Nat → Int) (x : Int) : Nat → Nat
  | 0 => 0
  | n + 1 => cnt f x n + if f n < x then 1 else 0
theorem cnt_is {f : Nat → Int} {x : Int} {k : Nat} : ∀ {n : Nat}, (∀ j, j < k → j < n → f j < x) → (∀ j, k ≤ j → j < n → x ≤ f j) → cnt f x n = min k n
  | 0, _, _ => by simp [cnt]
  | n + 1, h1, h2 => by
    have ih := cnt_is (n := n) (fun j a b => h1 j a (by omega)) (fun j a b => h2 j a (by omega))
    rw [cnt, ih]
    by_cases h : n < k
    · rw [if_pos (h1 n h (by omega))]; omega
    · rw [if_neg (by have := h2 n (by omega) (by omega); omega)]; omega
def mkAt (a b : PartD) (m : Nat) : Int := if cnt a.of (a.st + m) a.hr.n < a.hr.n then b.of (cnt a.of (a.st + m) a.hr.n) else b.en
def mkL (a b : PartD) : List Int := (List.range (a.en - a.st + 1).toNat).map (mkAt a b)
theorem mkL_length (a b : PartD) : (mkL a b).length = (a.en - a.st + 1).toNat := by simp [mkL]
theorem mkL_nth (a b : PartD) (m : Nat) (h : m < (a.en - a.st + 1).toNat) : nth (mkL a b) m = mkAt a b m := by simp [nth, mkL, h]
theorem mkL_take (a b : PartD) (m : Nat) (h : m < (a.en - a.st + 1).toNat) : (mkL a b).take (m + 1) = (mkL a b).take m ++ [mkAt a b m] := by
  rw [List.take_succ_eq_append_getElem (by rw [mkL_length]; exact h), nth_of (by rw [mkL_length]; exact h), mkL_nth a b m h]
theorem icells_snoc (l : List Int) (x : Int) : icells l ++ [.int .i64 x] = icells (l ++ [x]) := by simp [icells]
theorem icells_one (l : List Int) : ∀ u ∈ icells l, u.oneCell' = true := by
  intro u hu
  obtain ⟨x, _, h⟩ := List.mem_flatMap.1 hu
  simp at h
  subst h
  rfl
structure mkOk (a b : PartD) : Prop where
  oka : a.ok
  okb : b.ok
  nn : a.hr.n = b.hr.n
def MakeIs (a b : PartD) (t : TabD) (x : Int) : Prop := (¬ mkOk a b ∧ x = 2 ∧ t.st = 0 ∧ t.en = 0 ∧ t.l = []) ∨ (mkOk a b ∧ x = 0 ∧ t.st = a.st ∧ t.en = a.en ∧ t.l = mkL a b)
theorem MakeIs.same {a b : PartD} {t u : TabD} {x y : Int} (h : MakeIs a b t x) (h' : MakeIs a b u y) : t.same u ∧ x = y := by
  rcases h with ⟨h0, rfl, h1, h2, h3⟩ | ⟨h0, rfl, h1, h2, h3⟩ <;> rcases h' with ⟨g0, rfl, g1, g2, g3⟩ | ⟨g0, rfl, g1, g2, g3⟩ <;> first | exact absurd h0 g0 | exact absurd g0 h0 | exact ⟨⟨h1.trans g1.symm, h2.trans g2.symm, h3.trans g3.symm⟩, rfl⟩
abbrev partE (g : Nat) (p : PartD) : Ent := .blk g (.cells [Value.int .i64 p.st, .int .i64 p.en, .slice p.hr.A p.hr.n p.hr.c, .slice p.ho.A p.ho.n p.ho.c, .slice p.hp.A p.hp.n p.hp.c].toArray 26 (0, 0))
abbrev tabZ : TabD := ⟨0, 0, ⟨none, 0, 0⟩, []⟩
theorem tabZ_laid (s : Store) : tabZ.laid s := Sl.nil s 1
theorem make1_calls (g2 g7 : Nat) (p : PartD) (m : Nat) (i : Nat) (s : Store) (hp : p.laid s) (hi : i < p.hr.n) (h0 : 0 ≤ p.st ∧ p.st ≤ 1048576) (hm : m ≤ 1048577) : Fn Try.prog 37 #[.int .i64 i, .pointer (some ⟨g2, 0, none⟩), .pointer (some ⟨g7, 0, none⟩)] s [partE g2 p, intE g7 m] (fun e s' h' => e = .returned (.bool (decide (p.st + m ≤ p.of i))) ∧ s' = s ∧ h' = [partE g2 p, intE g7 m]) := by
  have hR := hp.rows
  have hat := PartD.row_at hp (i : Int) i (Int.toNat_natCast i) hi
  refine Fn.intro (args := [.int .i64 i, .pointer (some ⟨g2, 0, none⟩), .pointer (some ⟨g7, 0, none⟩)]) Try.func37 rfl Try.ntmps37 (Nat.le_of_ble_eq_true rfl) (fun C ok hh => ?_)
  by_cases h : p.st + m ≤ p.of i
  all_goals
    repeat (first | (with_reducible first | refine GL.nil ?_ | refine G.region ?_ | refine G.seq ?_ | refine G.skip ?_ | refine G.block ?_ | refine G.inBlock ?_ | refine G.label ?_) | ((with_reducible show GL _ _ _ _ (_ :: _) _ _ _ _); first | refine GL.p ?_ | refine GL.pK ?_ | refine GL.store ?_ | refine GL.storeN ?_ | refine GL.boxA (fun g => ?_) | refine GL.box1 (fun g => ?_) | refine GL.alloc1 rfl (fun g => ?_) | refine GL.allocA (fun g => ?_) | refine GL.no ?_) | ((with_reducible show G _ _ _ (Item.code (Code.cond _ _ _) :: _) _ _ _); first | refine G.condT rfl ?_ | refine G.condF rfl ?_ | refine G.condYes rfl (by omega) ?_ | refine G.condNo rfl (by omega) ?_) | (with_reducible refine G.exit rfl ?_))
    refine G.draw0 (m := 12) (lay 12 0) follows_mixed ?_
    (first | refine GD.p 0 (lay 12 1) ?_ | refine GD.no 0 (lay 12 1) ?_); (first | refine GD.p 1 (lay 12 3) ?_ | refine GD.no 1 (lay 12 3) ?_); (first | refine GD.p 2 (lay 12 7) ?_ | refine GD.no 2 (lay 12 7) ?_); (first | refine GD.p 3 (lay 12 15) ?_ | refine GD.no 3 (lay 12 15) ?_); (first | refine GD.p 4 (lay 12 31) ?_ | refine GD.no 4 (lay 12 31) ?_); (first | refine GD.p 5 (lay 12 63) ?_ | refine GD.no 5 (lay 12 63) ?_); (first | refine GD.p 6 (lay 12 127) ?_ | refine GD.no 6 (lay 12 127) ?_); (first | refine GD.p 7 (lay 12 255) ?_ | refine GD.no 7 (lay 12 255) ?_); (first | refine GD.p 8 (lay 12 511) ?_ | refine GD.no 8 (lay 12 511) ?_); (first | refine GD.p 9 (lay 12 1023) ?_ | refine GD.no 9 (lay 12 1023) ?_); (first | refine GD.p 10 (lay 12 2047) ?_ | refine GD.no 10 (lay 12 2047) ?_); (first | refine GD.p 11 (lay 12 4095) ?_ | refine GD.no 11 (lay 12 4095) ?_)
    refine GD.nil ?_
    repeat (first | (with_reducible first | refine GL.nil ?_ | refine G.region ?_ | refine G.seq ?_ | refine G.skip ?_ | refine G.block ?_ | refine G.inBlock ?_ | refine G.label ?_) | ((with_reducible show GL _ _ _ _ (_ :: _) _ _ _ _); first | refine GL.p ?_ | refine GL.pK ?_ | refine GL.store ?_ | refine GL.storeN ?_ | refine GL.boxA (fun g => ?_) | refine GL.box1 (fun g => ?_) | refine GL.alloc1 rfl (fun g => ?_) | refine GL.allocA (fun g => ?_) | refine GL.no ?_) | ((with_reducible show G _ _ _ (Item.code (Code.cond _ _ _) :: _) _ _ _); first | refine G.condT rfl ?_ | refine G.condF rfl ?_ | refine G.condYes rfl (by omega) ?_ | refine G.condNo rfl (by omega) ?_) | (with_reducible refine G.exit rfl ?_))
    refine G.ret1 ok rfl ?_
    exact ⟨by simp only [h]; rfl, rfl, rfl⟩
set_option maxHeartbeats 16000000 in
theorem make_calls (a b : PartD) (s : Store) (ha : a.laid s) (hb : b.laid s) (hsm : a.ok → a.en - a.st ≤ 1000) : Fn Try.prog 15 #[a.v, b.v] s [] (fun e s' h' => ∃ t x, e = .returned (.tuple #[t.v, .int .i64 x]) ∧ MakeIs a b t x ∧ t.laid s' ∧ h' = []) := by
  have hAc := ha.rows.cap
  have hAm := ha.rows.max
  have hB := hb.rows
  refine Fn.intro (args := [a.v, b.v]) Try.func15 rfl Try.ntmps15 (Nat.le_of_ble_eq_true rfl) (fun C ok hh => ?_)
  repeat (first | (with_reducible first | refine GL.nil ?_ | refine G.region ?_ | refine G.seq ?_ | refine G.skip ?_ | refine G.block ?_ | refine G.inBlock ?_ | refine G.label ?_) | ((with_reducible show GL _ _ _ _ (_ :: _) _ _ _ _); first | refine GL.p ?_ | refine GL.pK ?_ | refine GL.store ?_ | refine GL.storeN ?_ | refine GL.boxA (fun g => ?_) | refine GL.box1 (fun g => ?_) | refine GL.alloc1 rfl (fun g => ?_) | refine GL.allocA (fun g => ?_) | refine GL.no ?_) | ((with_reducible show G _ _ _ (Item.code (Code.cond _ _ _) :: _) _ _ _); first | refine G.condT rfl ?_ | refine G.condF rfl ?_ | refine G.condYes rfl (by omega) ?_ | refine G.condNo rfl (by omega) ?_) | (with_reducible refine G.exit rfl ?_))
  rename_i g2 g3
  refine GL.call rfl rfl (check_calls a s ha) .nil fun v s1 h1' hq hle1 => ?_
  obtain ⟨x, e1, hx, hs1, rfl⟩ := hq
  subst s1
  cases e1
  rw [List.nil_append]
  rcases hx with ⟨rfl, hka⟩ | ⟨rfl, hka⟩
  rotate_left
  · repeat (first | (with_reducible first | refine GL.nil ?_ | refine G.region ?_ | refine G.seq ?_ | refine G.skip ?_ | refine G.block ?_ | refine G.inBlock ?_ | refine G.label ?_) | ((with_reducible show GL _ _ _ _ (_ :: _) _ _ _ _); first | refine GL.p ?_ | refine GL.pK ?_ | refine GL.store ?_ | refine GL.storeN ?_ | refine GL.boxA (fun g => ?_) | refine GL.box1 (fun g => ?_) | refine GL.alloc1 rfl (fun g => ?_) | refine GL.allocA (fun g => ?_) | refine GL.no ?_) | ((with_reducible show G _ _ _ (Item.code (Code.cond _ _ _) :: _) _ _ _); first | refine G.condT rfl ?_ | refine G.condF rfl ?_ | refine G.condYes rfl (by omega) ?_ | refine G.condNo rfl (by omega) ?_) | (with_reducible refine G.exit rfl ?_))
    refine G.retS (h' := []) (v := .tuple #[tabZ.v, .int .i64 2]) ok (resNc1 rfl rfl rfl rfl rfl (by (repeat (first | exact List.Mem.head _ | apply List.Mem.tail)))) .nil ?_
    exact ⟨tabZ, 2, rfl, .inl ⟨fun h => hka h.oka, rfl, rfl, rfl, rfl⟩, tabZ_laid s, rfl⟩
  repeat (first | (with_reducible first | refine GL.nil ?_ | refine G.region ?_ | refine G.seq ?_ | refine G.skip ?_ | refine G.block ?_ | refine G.inBlock ?_ | refine G.label ?_) | ((with_reducible show GL _ _ _ _ (_ :: _) _ _ _ _); first | refine GL.p ?_ | refine GL.pK ?_ | refine GL.store ?_ | refine GL.storeN ?_ | refine GL.boxA (fun g => ?_) | refine GL.box1 (fun g => ?_) | refine GL.alloc1 rfl (fun g => ?_) | refine GL.allocA (fun g => ?_) | refine GL.no ?_) | ((with_reducible show G _ _ _ (Item.code (Code.cond _ _ _) :: _) _ _ _); first | refine G.condT rfl ?_ | refine G.condF rfl ?_ | refine G.condYes rfl (by omega) ?_ | refine G.condNo rfl (by omega) ?_) | (with_reducible refine G.exit rfl ?_))
  refine GL.call rfl rfl (check_calls b s hb) .nil fun v s1 h1' hq hle2 => ?_
  obtain ⟨x, e1, hx, hs1, rfl⟩ := hq
  subst s1
  cases e1
  rw [List.nil_append]
  rcases hx with ⟨rfl, hkb⟩ | ⟨rfl, hkb⟩
  rotate_left
  · repeat (first | (with_reducible first | refine GL.nil ?_ | refine G.region ?_ | refine G.seq ?_ | refine G.skip ?_ | refine G.block ?_ | refine G.inBlock ?_ | refine G.label ?_) | ((with_reducible show GL _ _ _ _ (_ :: _) _ _ _ _); first | refine GL.p ?_ | refine GL.pK ?_ | refine GL.store ?_ | refine GL.storeN ?_ | refine GL.boxA (fun g => ?_) | refine GL.box1 (fun g => ?_) | refine GL.alloc1 rfl (fun g => ?_) | refine GL.allocA (fun g => ?_) | refine GL.no ?_) | ((with_reducible show G _ _ _ (Item.code (Code.cond _ _ _) :: _) _ _ _); first | refine G.condT rfl ?_ | refine G.condF rfl ?_ | refine G.condYes rfl (by omega) ?_ | refine G.condNo rfl (by omega) ?_) | (with_reducible refine G.exit rfl ?_))
    refine G.retS (h' := []) (v := .tuple #[tabZ.v, .int .i64 2]) ok (resNc1 rfl rfl rfl rfl rfl (by (repeat (first | exact List.Mem.head _ | apply List.Mem.tail)))) .nil ?_
    exact ⟨tabZ, 2, rfl, .inl ⟨fun h => hkb h.okb, rfl, rfl, rfl, rfl⟩, tabZ_laid s, rfl⟩
  by_cases hn : (a.hr.n : Int) ≠ b.hr.n
  · repeat (first | (with_reducible first | refine GL.nil ?_ | refine G.region ?_ | refine G.seq ?_ | refine G.skip ?_ | refine G.block ?_ | refine G.inBlock ?_ | refine G.label ?_) | ((with_reducible show GL _ _ _ _ (_ :: _) _ _ _ _); first | refine GL.p ?_ | refine GL.pK ?_ | refine GL.store ?_ | refine GL.storeN ?_ | refine GL.boxA (fun g => ?_) | refine GL.box1 (fun g => ?_) | refine GL.alloc1 rfl (fun g => ?_) | refine GL.allocA (fun g => ?_) | refine GL.no ?_) | ((with_reducible show G _ _ _ (Item.code (Code.cond _ _ _) :: _) _ _ _); first | refine G.condT rfl ?_ | refine G.condF rfl ?_ | refine G.condYes rfl (by omega) ?_ | refine G.condNo rfl (by omega) ?_) | (with_reducible refine G.exit rfl ?_))
    refine G.retS (h' := []) (v := .tuple #[tabZ.v, .int .i64 2]) ok (resNc1 rfl rfl rfl rfl rfl (by (repeat (first | exact List.Mem.head _ | apply List.Mem.tail)))) .nil ?_
    exact ⟨tabZ, 2, rfl, .inl ⟨fun h => hn (by have := h.nn; omega), rfl, rfl, rfl, rfl⟩, tabZ_laid s, rfl⟩
  have hmk : mkOk a b := ⟨hka, hkb, by omega⟩
  have q0 := hka.st
  have q1 := hka.se
  have q2 := hka.en
  have q3 := hsm hka
  have hAn : a.hr.n ≤ 1000 := by
    rcases Nat.eq_zero_or_pos a.hr.n with h | h
    · omega
    · have h1 := rise_mono (i := 0) (j := a.hr.n - 1) hka.up (by omega) (by omega)
      have h2 := hka.lo 0 h
      have h3 := hka.hi (a.hr.n - 1) (by omega)
      omega
  have hnum : a.en - a.st + 1 = (((a.en - a.st + 1).toNat : Nat) : Int) := by omega
  generalize hN : (a.en - a.st + 1).toNat = N at hnum
  repeat (first | (with_reducible first | refine GL.nil ?_ | refine G.region ?_ | refine G.seq ?_ | refine G.skip ?_ | refine G.block ?_ | refine G.inBlock ?_ | refine G.label ?_) | ((with_reducible show GL _ _ _ _ (_ :: _) _ _ _ _); first | refine GL.p ?_ | refine GL.pK ?_ | refine GL.store ?_ | refine GL.storeN ?_ | refine GL.boxA (fun g => ?_) | refine GL.box1 (fun g => ?_) | refine GL.alloc1 rfl (fun g => ?_) | refine GL.allocA (fun g => ?_) | refine GL.no ?_) | ((with_reducible show G _ _ _ (Item.code (Code.cond _ _ _) :: _) _ _ _); first | refine G.condT rfl ?_ | refine G.condF rfl ?_ | refine G.condYes rfl (by omega) ?_ | refine G.condNo rfl (by omega) ?_) | (with_reducible refine G.exit rfl ?_))
  rename_i g4
  rw [hnum]
  refine G.nilbuf 3 1 ?_
  refine G.loop (fun x : Nat × Option Addr × Nat => [(2, .pointer (some ⟨g2, 0, none⟩)), (3, .pointer (some ⟨g3, 0, none⟩)), (4, .pointer (some ⟨g4, 0, none⟩)), (6, .pointer (some ⟨g, 0, none⟩)), (38, .int .i64 N), (39, .int .i64 x.1)])
    (fun x => [partE g2 a, partE g3 b, tabE g4 tabZ, tabE g ⟨a.st, a.en, ⟨x.2.1, x.1, x.2.2⟩, []⟩, .buf (.slice x.2.1 x.1 x.2.2) 3 1 x.1 (icells ((mkL a b).take x.1))]) (fun x s' => s.le s' ∧ x.1 ≤ N) (fun x => N - x.1) (0, none, 0) (by ((repeat' (first | exact trivial | refine And.intro ?_ ?_)); all_goals (first | (refine congrArg some (congrArg (Value.int _) ?_); (try dsimp only); omega) | exact rfl))) (by (first | exact Split.refl _ | ((try dsimp only); repeat (first | exact Split.nil | (apply Split.cons; (repeat (first | exact Pick.head | apply Pick.tail))))))) ⟨Store.le.refl _, Nat.zero_le _⟩ ?_
  rintro ⟨m, A, cc⟩ s1 ⟨hle, hm⟩ ih
  dsimp only at hm ⊢
  by_cases hlt : (m : Int) < N
  · have hcnt : ∀ k, k ≤ a.hr.n → (0 < k → a.of (k - 1) < a.st + m) → (k < a.hr.n → a.st + m ≤ a.of k) → cnt a.of (a.st + m) a.hr.n = k := fun k hk h1 h2 => by
      rw [cnt_is (k := k) (fun j hj hj2 => ?_) (fun j hj hj2 => ?_)]
      · omega
      · have := rise_mono (i := j) (j := k - 1) hka.up (by omega) (by omega)
        have := h1 (by omega)
        omega
      · have := rise_mono (i := k) (j := j) hka.up (by omega) (by omega)
        have := h2 (by omega)
        omega
    have htake := mkL_take a b m (by omega)
    repeat (first | (with_reducible first | refine GL.nil ?_ | refine G.region ?_ | refine G.seq ?_ | refine G.skip ?_ | refine G.block ?_ | refine G.inBlock ?_ | refine G.label ?_) | ((with_reducible show GL _ _ _ _ (_ :: _) _ _ _ _); first | refine GL.p ?_ | refine GL.pK ?_ | refine GL.store ?_ | refine GL.storeN ?_ | refine GL.boxA (fun g => ?_) | refine GL.box1 (fun g => ?_) | refine GL.alloc1 rfl (fun g => ?_) | refine GL.allocA (fun g => ?_) | refine GL.no ?_) | ((with_reducible show G _ _ _ (Item.code (Code.cond _ _ _) :: _) _ _ _); first | refine G.condT rfl ?_ | refine G.condF rfl ?_ | refine G.condYes rfl (by omega) ?_ | refine G.condNo rfl (by omega) ?_) | (with_reducible refine G.exit rfl ?_))
    rename_i g6
    refine GL.call rfl rfl (search_calls a.hr.n (fun i => decide (a.st + m ≤ a.of i)) 37 [.pointer (some ⟨g2, 0, none⟩), .pointer (some ⟨g, 0, none⟩)] s1 [partE g2 a, intE g m] (by omega) (fun i s' hi hle' => make1_calls g2 g a m i s' (ha.le (hle.trans hle')) hi ⟨by omega, by omega⟩ (by omega))) (by (first | exact Split.refl _ | ((try dsimp only); repeat (first | exact Split.nil | (apply Split.cons; (repeat (first | exact Pick.head | apply Pick.tail))))))) fun v s2 h1' hq hle3 => ?_
    obtain ⟨k, e1, hk1, hk2, hk3, hs1, rfl⟩ := hq
    subst s2
    cases e1
    have hk := hcnt k hk1 (fun h => by have := of_decide_eq_false (hk2 h); omega) (fun h => of_decide_eq_true (hk3 h))
    by_cases hkn : (k : Int) < b.hr.n
    · have hat := PartD.row_at hb (k : Int) k (Int.toNat_natCast k) (by omega)
      have hv : mkAt a b m = b.of k := by rw [mkAt, hk, if_pos (by omega)]
      replace hB := hB.le hle
      repeat (first | (with_reducible first | refine GL.nil ?_ | refine G.region ?_ | refine G.seq ?_ | refine G.skip ?_ | refine G.block ?_ | refine G.inBlock ?_ | refine G.label ?_) | ((with_reducible show GL _ _ _ _ (_ :: _) _ _ _ _); first | refine GL.p ?_ | refine GL.pK ?_ | refine GL.store ?_ | refine GL.storeN ?_ | refine GL.boxA (fun g => ?_) | refine GL.box1 (fun g => ?_) | refine GL.alloc1 rfl (fun g => ?_) | refine GL.allocA (fun g => ?_) | refine GL.no ?_) | ((with_reducible show G _ _ _ (Item.code (Code.cond _ _ _) :: _) _ _ _); first | refine G.condT rfl ?_ | refine G.condF rfl ?_ | refine G.condYes rfl (by omega) ?_ | refine G.condNo rfl (by omega) ?_) | (with_reducible refine G.exit rfl ?_))
      refine GL.lit1 rfl fun A1 s3 hle4 hs3 => ?_
      refine GL.appS rfl rfl (Src.of_sl hs3 (by simp [Value.oneCell'])) (by (try dsimp only); omega) (by (try dsimp only); omega) fun A2 c2 => ?_
      rw [icells_snoc, ← hv, ← htake]
      repeat (first | (with_reducible first | refine GL.nil ?_ | refine G.region ?_ | refine G.seq ?_ | refine G.skip ?_ | refine G.block ?_ | refine G.inBlock ?_ | refine G.label ?_) | ((with_reducible show GL _ _ _ _ (_ :: _) _ _ _ _); first | refine GL.p ?_ | refine GL.pK ?_ | refine GL.store ?_ | refine GL.storeN ?_ | refine GL.boxA (fun g => ?_) | refine GL.box1 (fun g => ?_) | refine GL.alloc1 rfl (fun g => ?_) | refine GL.allocA (fun g => ?_) | refine GL.no ?_) | ((with_reducible show G _ _ _ (Item.code (Code.cond _ _ _) :: _) _ _ _); first | refine G.condT rfl ?_ | refine G.condF rfl ?_ | refine G.condYes rfl (by omega) ?_ | refine G.condNo rfl (by omega) ?_) | (with_reducible refine G.exit rfl ?_))
      refine ih (m + 1, A2, c2) _ _ _ _ (by ((repeat' (first | exact trivial | refine And.intro ?_ ?_)); all_goals (first | (refine congrArg some (congrArg (Value.int _) ?_); (try dsimp only); omega) | exact rfl))) (by (first | exact Split.refl _ | ((try dsimp only); repeat (first | exact Split.nil | (apply Split.cons; (repeat (first | exact Pick.head | apply Pick.tail))))))) ⟨hle.trans hle4, by dsimp only; omega⟩ (by dsimp only; omega)
    · have hv : mkAt a b m = b.en := by rw [mkAt, hk, if_neg (by omega)]
      repeat (first | (with_reducible first | refine GL.nil ?_ | refine G.region ?_ | refine G.seq ?_ | refine G.skip ?_ | refine G.block ?_ | refine G.inBlock ?_ | refine G.label ?_) | ((with_reducible show GL _ _ _ _ (_ :: _) _ _ _ _); first | refine GL.p ?_ | refine GL.pK ?_ | refine GL.store ?_ | refine GL.storeN ?_ | refine GL.boxA (fun g => ?_) | refine GL.box1 (fun g => ?_) | refine GL.alloc1 rfl (fun g => ?_) | refine GL.allocA (fun g => ?_) | refine GL.no ?_) | ((with_reducible show G _ _ _ (Item.code (Code.cond _ _ _) :: _) _ _ _); first | refine G.condT rfl ?_ | refine G.condF rfl ?_ | refine G.condYes rfl (by omega) ?_ | refine G.condNo rfl (by omega) ?_) | (with_reducible refine G.exit rfl ?_))
      refine GL.lit1 rfl fun A1 s3 hle4 hs3 => ?_
      refine GL.appS rfl rfl (Src.of_sl hs3 (by simp [Value.oneCell'])) (by (try dsimp only); omega) (by (try dsimp only); omega) fun A2 c2 => ?_
      rw [icells_snoc, ← hv, ← htake]
      repeat (first | (with_reducible first | refine GL.nil ?_ | refine G.region ?_ | refine G.seq ?_ | refine G.skip ?_ | refine G.block ?_ | refine G.inBlock ?_ | refine G.label ?_) | ((with_reducible show GL _ _ _ _ (_ :: _) _ _ _ _); first | refine GL.p ?_ | refine GL.pK ?_ | refine GL.store ?_ | refine GL.storeN ?_ | refine GL.boxA (fun g => ?_) | refine GL.box1 (fun g => ?_) | refine GL.alloc1 rfl (fun g => ?_) | refine GL.allocA (fun g => ?_) | refine GL.no ?_) | ((with_reducible show G _ _ _ (Item.code (Code.cond _ _ _) :: _) _ _ _); first | refine G.condT rfl ?_ | refine G.condF rfl ?_ | refine G.condYes rfl (by omega) ?_ | refine G.condNo rfl (by omega) ?_) | (with_reducible refine G.exit rfl ?_))
      refine ih (m + 1, A2, c2) _ _ _ _ (by ((repeat' (first | exact trivial | refine And.intro ?_ ?_)); all_goals (first | (refine congrArg some (congrArg (Value.int _) ?_); (try dsimp only); omega) | exact rfl))) (by (first | exact Split.refl _ | ((try dsimp only); repeat (first | exact Split.nil | (apply Split.cons; (repeat (first | exact Pick.head | apply Pick.tail))))))) ⟨hle.trans hle4, by dsimp only; omega⟩ (by dsimp only; omega)
  · obtain rfl : m = N := by omega
    repeat (first | (with_reducible first | refine GL.nil ?_ | refine G.region ?_ | refine G.seq ?_ | refine G.skip ?_ | refine G.block ?_ | refine G.inBlock ?_ | refine G.label ?_) | ((with_reducible show GL _ _ _ _ (_ :: _) _ _ _ _); first | refine GL.p ?_ | refine GL.pK ?_ | refine GL.store ?_ | refine GL.storeN ?_ | refine GL.boxA (fun g => ?_) | refine GL.box1 (fun g => ?_) | refine GL.alloc1 rfl (fun g => ?_) | refine GL.allocA (fun g => ?_) | refine GL.no ?_) | ((with_reducible show G _ _ _ (Item.code (Code.cond _ _ _) :: _) _ _ _); first | refine G.condT rfl ?_ | refine G.condF rfl ?_ | refine G.condYes rfl (by omega) ?_ | refine G.condNo rfl (by omega) ?_) | (with_reducible refine G.exit rfl ?_))
    refine G.freezeBuf (by (repeat (first | exact Pick.head | apply Pick.tail))) fun s3 hle4 hs3 => ?_
    rw [List.take_of_length_le (by rw [mkL_length]; omega)] at hs3
    refine G.retS (h' := []) (v := .tuple #[TabD.v ⟨a.st, a.en, ⟨A, m, cc⟩, mkL a b⟩, .int .i64 0]) ok (resNc1 rfl rfl rfl rfl rfl (by (repeat (first | exact List.Mem.head _ | apply List.Mem.tail)))) .nil ?_
    exact ⟨⟨a.st, a.en, ⟨A, m, cc⟩, mkL a b⟩, 0, rfl, .inr ⟨hmk, rfl, rfl, rfl, rfl⟩, hs3, rfl⟩
set_option maxHeartbeats 16000000 in
theorem makeR_calls (a b : PartD) (s : Store) (ha : a.laid s) (hb : b.laid s) (hsm : a.ok → a.en - a.st ≤ 1000) : Fn Try.prog 16 #[a.v, b.v] s [] (fun e s' h' => ∃ t x, e = .returned (.tuple #[t.v, .int .i64 x]) ∧ MakeIs a b t x ∧ t.laid s' ∧ h' = []) := by
  have hAc := ha.rows.cap
  have hAm := ha.rows.max
  refine Fn.intro (args := [a.v, b.v]) Try.func16 rfl Try.ntmps16 (Nat.le_of_ble_eq_true rfl) (fun C ok hh => ?_)
  repeat (first | (with_reducible first | refine GL.nil ?_ | refine G.region ?_ | refine G.seq ?_ | refine G.skip ?_ | refine G.block ?_ | refine G.inBlock ?_ | refine G.label ?_) | ((with_reducible show GL _ _ _ _ (_ :: _) _ _ _ _); first | refine GL.p ?_ | refine GL.pK ?_ | refine GL.store ?_ | refine GL.storeN ?_ | refine GL.boxA (fun g => ?_) | refine GL.box1 (fun g => ?_) | refine GL.alloc1 rfl (fun g => ?_) | refine GL.allocA (fun g => ?_) | refine GL.no ?_) | ((with_reducible show G _ _ _ (Item.code (Code.cond _ _ _) :: _) _ _ _); first | refine G.condT rfl ?_ | refine G.condF rfl ?_ | refine G.condYes rfl (by omega) ?_ | refine G.condNo rfl (by omega) ?_) | (with_reducible refine G.exit rfl ?_))
  rename_i g2 g3
  refine GL.call rfl rfl (rcheck_calls a s ha) .nil fun v s1 h1' hq hle1 => ?_
  obtain ⟨x, e1, hx, hs1, rfl⟩ := hq
  subst s1
  cases e1
  rw [List.nil_append]
  rcases hx with ⟨rfl, hka⟩ | ⟨rfl, hka⟩
  rotate_left
  · repeat (first | (with_reducible first | refine GL.nil ?_ | refine G.region ?_ | refine G.seq ?_ | refine G.skip ?_ | refine G.block ?_ | refine G.inBlock ?_ | refine G.label ?_) | ((with_reducible show GL _ _ _ _ (_ :: _) _ _ _ _); first | refine GL.p ?_ | refine GL.pK ?_ | refine GL.store ?_ | refine GL.storeN ?_ | refine GL.boxA (fun g => ?_) | refine GL.box1 (fun g => ?_) | refine GL.alloc1 rfl (fun g => ?_) | refine GL.allocA (fun g => ?_) | refine GL.no ?_) | ((with_reducible show G _ _ _ (Item.code (Code.cond _ _ _) :: _) _ _ _); first | refine G.condT rfl ?_ | refine G.condF rfl ?_ | refine G.condYes rfl (by omega) ?_ | refine G.condNo rfl (by omega) ?_) | (with_reducible refine G.exit rfl ?_))
    refine G.retS (h' := []) (v := .tuple #[tabZ.v, .int .i64 2]) ok (resNc1 rfl rfl rfl rfl rfl (by (repeat (first | exact List.Mem.head _ | apply List.Mem.tail)))) .nil ?_
    exact ⟨tabZ, 2, rfl, .inl ⟨fun h => hka h.oka, rfl, rfl, rfl, rfl⟩, tabZ_laid s, rfl⟩
  repeat (first | (with_reducible first | refine GL.nil ?_ | refine G.region ?_ | refine G.seq ?_ | refine G.skip ?_ | refine G.block ?_ | refine G.inBlock ?_ | refine G.label ?_) | ((with_reducible show GL _ _ _ _ (_ :: _) _ _ _ _); first | refine GL.p ?_ | refine GL.pK ?_ | refine GL.store ?_ | refine GL.storeN ?_ | refine GL.boxA (fun g => ?_) | refine GL.box1 (fun g => ?_) | refine GL.alloc1 rfl (fun g => ?_) | refine GL.allocA (fun g => ?_) | refine GL.no ?_) | ((with_reducible show G _ _ _ (Item.code (Code.cond _ _ _) :: _) _ _ _); first | refine G.condT rfl ?_ | refine G.condF rfl ?_ | refine G.condYes rfl (by omega) ?_ | refine G.condNo rfl (by omega) ?_) | (with_reducible refine G.exit rfl ?_))
  refine GL.call rfl rfl (rcheck_calls b s hb) .nil fun v s1 h1' hq hle2 => ?_
  obtain ⟨x, e1, hx, hs1, rfl⟩ := hq
  subst s1
  cases e1
  rw [List.nil_append]
  rcases hx with ⟨rfl, hkb⟩ | ⟨rfl, hkb⟩
  rotate_left
  · repeat (first | (with_reducible first | refine GL.nil ?_ | refine G.region ?_ | refine G.seq ?_ | refine G.skip ?_ | refine G.block ?_ | refine G.inBlock ?_ | refine G.label ?_) | ((with_reducible show GL _ _ _ _ (_ :: _) _ _ _ _); first | refine GL.p ?_ | refine GL.pK ?_ | refine GL.store ?_ | refine GL.storeN ?_ | refine GL.boxA (fun g => ?_) | refine GL.box1 (fun g => ?_) | refine GL.alloc1 rfl (fun g => ?_) | refine GL.allocA (fun g => ?_) | refine GL.no ?_) | ((with_reducible show G _ _ _ (Item.code (Code.cond _ _ _) :: _) _ _ _); first | refine G.condT rfl ?_ | refine G.condF rfl ?_ | refine G.condYes rfl (by omega) ?_ | refine G.condNo rfl (by omega) ?_) | (with_reducible refine G.exit rfl ?_))
    refine G.retS (h' := []) (v := .tuple #[tabZ.v, .int .i64 2]) ok (resNc1 rfl rfl rfl rfl rfl (by (repeat (first | exact List.Mem.head _ | apply List.Mem.tail)))) .nil ?_
    exact ⟨tabZ, 2, rfl, .inl ⟨fun h => hkb h.okb, rfl, rfl, rfl, rfl⟩, tabZ_laid s, rfl⟩
  by_cases hn : (a.hr.n : Int) ≠ b.hr.n
  · repeat (first | (with_reducible first | refine GL.nil ?_ | refine G.region ?_ | refine G.seq ?_ | refine G.skip ?_ | refine G.block ?_ | refine G.inBlock ?_ | refine G.label ?_) | ((with_reducible show GL _ _ _ _ (_ :: _) _ _ _ _); first | refine GL.p ?_ | refine GL.pK ?_ | refine GL.store ?_ | refine GL.storeN ?_ | refine GL.boxA (fun g => ?_) | refine GL.box1 (fun g => ?_) | refine GL.alloc1 rfl (fun g => ?_) | refine GL.allocA (fun g => ?_) | refine GL.no ?_) | ((with_reducible show G _ _ _ (Item.code (Code.cond _ _ _) :: _) _ _ _); first | refine G.condT rfl ?_ | refine G.condF rfl ?_ | refine G.condYes rfl (by omega) ?_ | refine G.condNo rfl (by omega) ?_) | (with_reducible refine G.exit rfl ?_))
    refine G.retS (h' := []) (v := .tuple #[tabZ.v, .int .i64 2]) ok (resNc1 rfl rfl rfl rfl rfl (by (repeat (first | exact List.Mem.head _ | apply List.Mem.tail)))) .nil ?_
    exact ⟨tabZ, 2, rfl, .inl ⟨fun h => hn (by have := h.nn; omega), rfl, rfl, rfl, rfl⟩, tabZ_laid s, rfl⟩
  have hmk : mkOk a b := ⟨hka, hkb, by omega⟩
  have q0 := hka.st
  have q1 := hka.se
  have q2 := hka.en
  have q3 := hsm hka
  have hnum : a.en - a.st + 1 = (((a.en - a.st + 1).toNat : Nat) : Int) := by omega
  generalize hN : (a.en - a.st + 1).toNat = N at hnum
  repeat (first | (with_reducible first | refine GL.nil ?_ | refine G.region ?_ | refine G.seq ?_ | refine G.skip ?_ | refine G.block ?_ | refine G.inBlock ?_ | refine G.label ?_) | ((with_reducible show GL _ _ _ _ (_ :: _) _ _ _ _); first | refine GL.p ?_ | refine GL.pK ?_ | refine GL.store ?_ | refine GL.storeN ?_ | refine GL.boxA (fun g => ?_) | refine GL.box1 (fun g => ?_) | refine GL.alloc1 rfl (fun g => ?_) | refine GL.allocA (fun g => ?_) | refine GL.no ?_) | ((with_reducible show G _ _ _ (Item.code (Code.cond _ _ _) :: _) _ _ _); first | refine G.condT rfl ?_ | refine G.condF rfl ?_ | refine G.condYes rfl (by omega) ?_ | refine G.condNo rfl (by omega) ?_) | (with_reducible refine G.exit rfl ?_))
  rename_i g4
  refine G.nilbuf 3 1 ?_
  refine G.loop (fun x : Nat × Option Addr × Nat => [(2, .pointer (some ⟨g2, 0, none⟩)), (3, .pointer (some ⟨g3, 0, none⟩)), (4, .pointer (some ⟨g4, 0, none⟩)), (6, .pointer (some ⟨g, 0, none⟩)), (7, .int .i64 (a.st + x.1))])
    (fun x => [partE g2 a, partE g3 b, tabE g4 tabZ, tabE g ⟨a.st, a.en, ⟨x.2.1, x.1, x.2.2⟩, []⟩, .buf (.slice x.2.1 x.1 x.2.2) 3 1 x.1 (icells ((mkL a b).take x.1))]) (fun x s' => s.le s' ∧ x.1 ≤ N) (fun x => N - x.1) (0, none, 0) (by ((repeat' (first | exact trivial | refine And.intro ?_ ?_)); all_goals (first | (refine congrArg some (congrArg (Value.int _) ?_); (try dsimp only); omega) | exact rfl))) (by (first | exact Split.refl _ | ((try dsimp only); repeat (first | exact Split.nil | (apply Split.cons; (repeat (first | exact Pick.head | apply Pick.tail))))))) ⟨Store.le.refl _, Nat.zero_le _⟩ ?_
  rintro ⟨m, A, cc⟩ s1 ⟨hle, hm⟩ ih
  dsimp only at hm ⊢
  replace ha := ha.le hle
  replace hb := hb.le hle
  have hA := ha.rows
  have hB := hb.rows
  by_cases hlt : a.st + m ≤ a.en
  · have hcnt : ∀ k, k ≤ a.hr.n → (∀ j, j < k → a.of j < a.st + m) → (k < a.hr.n → a.st + m ≤ a.of k) → cnt a.of (a.st + m) a.hr.n = k := fun k hk h1 h2 => by
      rw [cnt_is (k := k) (fun j hj hj2 => h1 j hj) (fun j hj hj2 => ?_)]
      · omega
      · have := rise_mono (i := k) (j := j) hka.up (by omega) (by omega)
        have := h2 (by omega)
        omega
    have htake := mkL_take a b m (by omega)
    repeat (first | (with_reducible first | refine GL.nil ?_ | refine G.region ?_ | refine G.seq ?_ | refine G.skip ?_ | refine G.block ?_ | refine G.inBlock ?_ | refine G.label ?_) | ((with_reducible show GL _ _ _ _ (_ :: _) _ _ _ _); first | refine GL.p ?_ | refine GL.pK ?_ | refine GL.store ?_ | refine GL.storeN ?_ | refine GL.boxA (fun g => ?_) | refine GL.box1 (fun g => ?_) | refine GL.alloc1 rfl (fun g => ?_) | refine GL.allocA (fun g => ?_) | refine GL.no ?_) | ((with_reducible show G _ _ _ (Item.code (Code.cond _ _ _) :: _) _ _ _); first | refine G.condT rfl ?_ | refine G.condF rfl ?_ | refine G.condYes rfl (by omega) ?_ | refine G.condNo rfl (by omega) ?_) | (with_reducible refine G.exit rfl ?_))
    refine G.loop (fun k : Nat => [(2, .pointer (some ⟨g2, 0, none⟩)), (3, .pointer (some ⟨g3, 0, none⟩)), (4, .pointer (some ⟨g4, 0, none⟩)), (6, .pointer (some ⟨g, 0, none⟩)), (7, .int .i64 (a.st + m)), (8, .int .i64 k)])
      (fun k => [partE g2 a, partE g3 b, tabE g4 tabZ, tabE g ⟨a.st, a.en, ⟨A, m, cc⟩, []⟩, .buf (.slice A m cc) 3 1 m (icells ((mkL a b).take m))]) (fun k s' => s' = s1 ∧ k ≤ a.hr.n ∧ ∀ j, j < k → a.of j < a.st + m) (fun k => a.hr.n - k) 0 (by ((repeat' (first | exact trivial | refine And.intro ?_ ?_)); all_goals (first | (refine congrArg some (congrArg (Value.int _) ?_); (try dsimp only); omega) | exact rfl))) (by (first | exact Split.refl _ | ((try dsimp only); repeat (first | exact Split.nil | (apply Split.cons; (repeat (first | exact Pick.head | apply Pick.tail))))))) ⟨rfl, Nat.zero_le _, fun j h => by omega⟩ ?_
    rintro k s2 ⟨rfl, hk, hlow⟩ ih2
    try dsimp only
    have hdone : ((k : Int) < a.hr.n → a.st + m ≤ a.of k) → mkAt a b m = if k < a.hr.n then b.of k else b.en := fun h => by rw [mkAt, hcnt k hk hlow (fun h' => h (by omega))]
    by_cases hkn : (k : Int) < a.hr.n
    · have hat := PartD.row_at ha (k : Int) k (Int.toNat_natCast k) (by omega)
      by_cases hof : a.of k < a.st + m
      · repeat (first | (with_reducible first | refine GL.nil ?_ | refine G.region ?_ | refine G.seq ?_ | refine G.skip ?_ | refine G.block ?_ | refine G.inBlock ?_ | refine G.label ?_) | ((with_reducible show GL _ _ _ _ (_ :: _) _ _ _ _); first | refine GL.p ?_ | refine GL.pK ?_ | refine GL.store ?_ | refine GL.storeN ?_ | refine GL.boxA (fun g => ?_) | refine GL.box1 (fun g => ?_) | refine GL.alloc1 rfl (fun g => ?_) | refine GL.allocA (fun g => ?_) | refine GL.no ?_) | ((with_reducible show G _ _ _ (Item.code (Code.cond _ _ _) :: _) _ _ _); first | refine G.condT rfl ?_ | refine G.condF rfl ?_ | refine G.condYes rfl (by omega) ?_ | refine G.condNo rfl (by omega) ?_) | (with_reducible refine G.exit rfl ?_))
        refine ih2 (k + 1) _ _ _ _ (by ((repeat' (first | exact trivial | refine And.intro ?_ ?_)); all_goals (first | (refine congrArg some (congrArg (Value.int _) ?_); (try dsimp only); omega) | exact rfl))) (by (first | exact Split.refl _ | ((try dsimp only); repeat (first | exact Split.nil | (apply Split.cons; (repeat (first | exact Pick.head | apply Pick.tail))))))) ⟨rfl, by omega, fun j hj => ?_⟩ (by omega)
        rcases Nat.lt_or_ge j k with h | h
        · exact hlow j h
        · obtain rfl : j = k := by omega
          exact hof
      · have hatb := PartD.row_at hb (k : Int) k (Int.toNat_natCast k) (by omega)
        have hv := hdone (fun _ => by omega)
        rw [if_pos (by omega)] at hv
        repeat (first | (with_reducible first | refine GL.nil ?_ | refine G.region ?_ | refine G.seq ?_ | refine G.skip ?_ | refine G.block ?_ | refine G.inBlock ?_ | refine G.label ?_) | ((with_reducible show GL _ _ _ _ (_ :: _) _ _ _ _); first | refine GL.p ?_ | refine GL.pK ?_ | refine GL.store ?_ | refine GL.storeN ?_ | refine GL.boxA (fun g => ?_) | refine GL.box1 (fun g => ?_) | refine GL.alloc1 rfl (fun g => ?_) | refine GL.allocA (fun g => ?_) | refine GL.no ?_) | ((with_reducible show G _ _ _ (Item.code (Code.cond _ _ _) :: _) _ _ _); first | refine G.condT rfl ?_ | refine G.condF rfl ?_ | refine G.condYes rfl (by omega) ?_ | refine G.condNo rfl (by omega) ?_) | (with_reducible refine G.exit rfl ?_))
        refine GL.lit1 rfl fun A1 s3 hle4 hs3 => ?_
        refine GL.appS rfl rfl (Src.of_sl hs3 (by simp [Value.oneCell'])) (by (try dsimp only); omega) (by (try dsimp only); omega) fun A2 c2 => ?_
        rw [icells_snoc, ← hv, ← htake]
        repeat (first | (with_reducible first | refine GL.nil ?_ | refine G.region ?_ | refine G.seq ?_ | refine G.skip ?_ | refine G.block ?_ | refine G.inBlock ?_ | refine G.label ?_) | ((with_reducible show GL _ _ _ _ (_ :: _) _ _ _ _); first | refine GL.p ?_ | refine GL.pK ?_ | refine GL.store ?_ | refine GL.storeN ?_ | refine GL.boxA (fun g => ?_) | refine GL.box1 (fun g => ?_) | refine GL.alloc1 rfl (fun g => ?_) | refine GL.allocA (fun g => ?_) | refine GL.no ?_) | ((with_reducible show G _ _ _ (Item.code (Code.cond _ _ _) :: _) _ _ _); first | refine G.condT rfl ?_ | refine G.condF rfl ?_ | refine G.condYes rfl (by omega) ?_ | refine G.condNo rfl (by omega) ?_) | (with_reducible refine G.exit rfl ?_))
        refine ih (m + 1, A2, c2) _ _ _ _ (by ((repeat' (first | exact trivial | refine And.intro ?_ ?_)); all_goals (first | (refine congrArg some (congrArg (Value.int _) ?_); (try dsimp only); omega) | exact rfl))) (by (first | exact Split.refl _ | ((try dsimp only); repeat (first | exact Split.nil | (apply Split.cons; (repeat (first | exact Pick.head | apply Pick.tail))))))) ⟨hle.trans hle4, by dsimp only; omega⟩ (by dsimp only; omega)
    · have hv := hdone (fun h => by omega)
      rw [if_neg (by omega)] at hv
      repeat (first | (with_reducible first | refine GL.nil ?_ | refine G.region ?_ | refine G.seq ?_ | refine G.skip ?_ | refine G.block ?_ | refine G.inBlock ?_ | refine G.label ?_) | ((with_reducible show GL _ _ _ _ (_ :: _) _ _ _ _); first | refine GL.p ?_ | refine GL.pK ?_ | refine GL.store ?_ | refine GL.storeN ?_ | refine GL.boxA (fun g => ?_) | refine GL.box1 (fun g => ?_) | refine GL.alloc1 rfl (fun g => ?_) | refine GL.allocA (fun g => ?_) | refine GL.no ?_) | ((with_reducible show G _ _ _ (Item.code (Code.cond _ _ _) :: _) _ _ _); first | refine G.condT rfl ?_ | refine G.condF rfl ?_ | refine G.condYes rfl (by omega) ?_ | refine G.condNo rfl (by omega) ?_) | (with_reducible refine G.exit rfl ?_))
      refine GL.lit1 rfl fun A1 s3 hle4 hs3 => ?_
      refine GL.appS rfl rfl (Src.of_sl hs3 (by simp [Value.oneCell'])) (by (try dsimp only); omega) (by (try dsimp only); omega) fun A2 c2 => ?_
      rw [icells_snoc, ← hv, ← htake]
      repeat (first | (with_reducible first | refine GL.nil ?_ | refine G.region ?_ | refine G.seq ?_ | refine G.skip ?_ | refine G.block ?_ | refine G.inBlock ?_ | refine G.label ?_) | ((with_reducible show GL _ _ _ _ (_ :: _) _ _ _ _); first | refine GL.p ?_ | refine GL.pK ?_ | refine GL.store ?_ | refine GL.storeN ?_ | refine GL.boxA (fun g => ?_) | refine GL.box1 (fun g => ?_) | refine GL.alloc1 rfl (fun g => ?_) | refine GL.allocA (fun g => ?_) | refine GL.no ?_) | ((with_reducible show G _ _ _ (Item.code (Code.cond _ _ _) :: _) _ _ _); first | refine G.condT rfl ?_ | refine G.condF rfl ?_ | refine G.condYes rfl (by omega) ?_ | refine G.condNo rfl (by omega) ?_) | (with_reducible refine G.exit rfl ?_))
      refine ih (m + 1, A2, c2) _ _ _ _ (by ((repeat' (first | exact trivial | refine And.intro ?_ ?_)); all_goals (first | (refine congrArg some (congrArg (Value.int _) ?_); (try dsimp only); omega) | exact rfl))) (by (first | exact Split.refl _ | ((try dsimp only); repeat (first | exact Split.nil | (apply Split.cons; (repeat (first | exact Pick.head | apply Pick.tail))))))) ⟨hle.trans hle4, by dsimp only; omega⟩ (by dsimp only; omega)
  · obtain rfl : m = N := by omega
    repeat (first | (with_reducible first | refine GL.nil ?_ | refine G.region ?_ | refine G.seq ?_ | refine G.skip ?_ | refine G.block ?_ | refine G.inBlock ?_ | refine G.label ?_) | ((with_reducible show GL _ _ _ _ (_ :: _) _ _ _ _); first | refine GL.p ?_ | refine GL.pK ?_ | refine GL.store ?_ | refine GL.storeN ?_ | refine GL.boxA (fun g => ?_) | refine GL.box1 (fun g => ?_) | refine GL.alloc1 rfl (fun g => ?_) | refine GL.allocA (fun g => ?_) | refine GL.no ?_) | ((with_reducible show G _ _ _ (Item.code (Code.cond _ _ _) :: _) _ _ _); first | refine G.condT rfl ?_ | refine G.condF rfl ?_ | refine G.condYes rfl (by omega) ?_ | refine G.condNo rfl (by omega) ?_) | (with_reducible refine G.exit rfl ?_))
    refine G.freezeBuf (by (repeat (first | exact Pick.head | apply Pick.tail))) fun s3 hle4 hs3 => ?_
    rw [List.take_of_length_le (by rw [mkL_length]; omega)] at hs3
    refine G.retS (h' := []) (v := .tuple #[TabD.v ⟨a.st, a.en, ⟨A, m, cc⟩, mkL a b⟩, .int .i64 0]) ok (resNc1 rfl rfl rfl rfl rfl (by (repeat (first | exact List.Mem.head _ | apply List.Mem.tail)))) .nil ?_
    exact ⟨⟨a.st, a.en, ⟨A, m, cc⟩, mkL a b⟩, 0, rfl, .inr ⟨hmk, rfl, rfl, rfl, rfl⟩, hs3, rfl⟩
end Go.Proofs.Ytnndjobhcncanaa
