/- Tables: where an offset goes, where it came from, by the program and by the document. No statement of the seat is proved here. -/
import Derived.Test.YtnndjobhcncanaaU7
namespace Go.Proofs.Ytnndjobhcncanaa
open Go.RowKit
def ToIs (t : TabD) (o x e : Int) : Prop := (¬ t.ok ∧ x = 0 ∧ e = 2) ∨ (t.ok ∧ ((o = -1 ∧ x = -1 ∧ e = 0) ∨ (o ≠ -1 ∧ (o < -1 ∨ t.en < o) ∧ x = 0 ∧ e = 130) ∨ (0 ≤ o ∧ o ≤ t.en ∧ x = nth t.l (o - t.st).toNat ∧ e = 0)))
theorem ToIs.same {t : TabD} {o x e x' e' : Int} (h : ToIs t o x e) (h' : ToIs t o x' e') : x = x' ∧ e = e' := by
  rcases h with ⟨h0, rfl, rfl⟩ | ⟨h0, ⟨h1, rfl, rfl⟩ | ⟨h1, h2, rfl, rfl⟩ | ⟨h1, h2, rfl, rfl⟩⟩ <;> rcases h' with ⟨g0, rfl, rfl⟩ | ⟨g0, ⟨g1, rfl, rfl⟩ | ⟨g1, g2, rfl, rfl⟩ | ⟨g1, g2, rfl, rfl⟩⟩ <;>
    first | exact ⟨rfl, rfl⟩ | exact absurd h0 g0 | exact absurd g0 h0 | omega
def BackIs (t : TabD) (o m : Int) (b : Bool) : Prop := (¬ t.ok ∧ m = 0 ∧ b = false) ∨ (t.ok ∧ ((b = true ∧ ∃ i, i < t.h.n ∧ nth t.l i = o ∧ (∀ j, i < j → j < t.h.n → nth t.l j ≠ o) ∧ m = t.st + i) ∨ (b = false ∧ m = 0 ∧ ∀ j, j < t.h.n → nth t.l j ≠ o)))
theorem BackIs.same {t : TabD} {o m m' : Int} {b b' : Bool} (h : BackIs t o m b) (h' : BackIs t o m' b') : m = m' ∧ b = b' := by
  rcases h with ⟨h0, rfl, rfl⟩ | ⟨h0, ⟨rfl, i, h1, h2, h3, rfl⟩ | ⟨rfl, rfl, h1⟩⟩ <;> rcases h' with ⟨g0, rfl, rfl⟩ | ⟨g0, ⟨rfl, k, g1, g2, g3, rfl⟩ | ⟨rfl, rfl, g1⟩⟩ <;> first | exact ⟨rfl, rfl⟩ | exact absurd h0 g0 | exact absurd g0 h0 | exact absurd h2 (g1 _ ‹_›) | exact absurd g2 (h1 _ ‹_›) | skip
  rcases Nat.lt_trichotomy i k with h | h | h
  · exact absurd g2 (h3 k h g1)
  · subst h; exact ⟨rfl, rfl⟩
  · exact absurd h2 (g3 i h h1)
set_option maxHeartbeats 4000000 in
theorem to_calls (t : TabD) (o : Int) (s : Store) (ht : t.laid s) : Fn Try.prog 19 #[t.v, .int .i64 o] s [] (fun e s' h' => ∃ x y, e = .returned (.tuple #[.int .i64 x, .int .i64 y]) ∧ ToIs t o x y ∧ s' = s ∧ h' = []) := by
  have hl := ht.ilen
  refine Fn.intro (args := [t.v, .int .i64 o]) Try.func19 rfl Try.ntmps19 (Nat.le_of_ble_eq_true rfl) (fun C ok hh => ?_)
  repeat (first | (with_reducible first | refine GL.nil ?_ | refine G.region ?_ | refine G.seq ?_ | refine G.skip ?_ | refine G.block ?_ | refine G.inBlock ?_ | refine G.label ?_) | ((with_reducible show GL _ _ _ _ (_ :: _) _ _ _ _); first | refine GL.p ?_ | refine GL.pK ?_ | refine GL.store ?_ | refine GL.storeN ?_ | refine GL.boxA (fun g => ?_) | refine GL.box1 (fun g => ?_) | refine GL.alloc1 rfl (fun g => ?_) | refine GL.allocA (fun g => ?_) | refine GL.no ?_) | ((with_reducible show G _ _ _ (Item.code (Code.cond _ _ _) :: _) _ _ _); first | refine G.condT rfl ?_ | refine G.condF rfl ?_ | refine G.condYes rfl (by omega) ?_ | refine G.condNo rfl (by omega) ?_) | (with_reducible refine G.exit rfl ?_))
  refine GL.call rfl rfl (tcheck_calls t s ht) .nil fun v s1 h1' hq hle => ?_
  obtain ⟨x, e1, hx, hs1, rfl⟩ := hq
  subst s1
  cases e1
  rw [List.nil_append]
  rcases hx with ⟨rfl, hk⟩ | ⟨rfl, hk⟩
  · have b0 := hk.st
    have b1 := hk.se
    have b2 := hk.en
    have b3 := hk.len
    by_cases h0 : o = -1
    · repeat (first | (with_reducible first | refine GL.nil ?_ | refine G.region ?_ | refine G.seq ?_ | refine G.skip ?_ | refine G.block ?_ | refine G.inBlock ?_ | refine G.label ?_) | ((with_reducible show GL _ _ _ _ (_ :: _) _ _ _ _); first | refine GL.p ?_ | refine GL.pK ?_ | refine GL.store ?_ | refine GL.storeN ?_ | refine GL.boxA (fun g => ?_) | refine GL.box1 (fun g => ?_) | refine GL.alloc1 rfl (fun g => ?_) | refine GL.allocA (fun g => ?_) | refine GL.no ?_) | ((with_reducible show G _ _ _ (Item.code (Code.cond _ _ _) :: _) _ _ _); first | refine G.condT rfl ?_ | refine G.condF rfl ?_ | refine G.condYes rfl (by omega) ?_ | refine G.condNo rfl (by omega) ?_) | (with_reducible refine G.exit rfl ?_))
      refine G.sub .nil ?_
      refine G.ret2 ok rfl ?_
      exact ⟨_, _, rfl, .inr ⟨hk, .inl ⟨h0, rfl, rfl⟩⟩, rfl, rfl⟩
    by_cases h1 : o < -1
    · repeat (first | (with_reducible first | refine GL.nil ?_ | refine G.region ?_ | refine G.seq ?_ | refine G.skip ?_ | refine G.block ?_ | refine G.inBlock ?_ | refine G.label ?_) | ((with_reducible show GL _ _ _ _ (_ :: _) _ _ _ _); first | refine GL.p ?_ | refine GL.pK ?_ | refine GL.store ?_ | refine GL.storeN ?_ | refine GL.boxA (fun g => ?_) | refine GL.box1 (fun g => ?_) | refine GL.alloc1 rfl (fun g => ?_) | refine GL.allocA (fun g => ?_) | refine GL.no ?_) | ((with_reducible show G _ _ _ (Item.code (Code.cond _ _ _) :: _) _ _ _); first | refine G.condT rfl ?_ | refine G.condF rfl ?_ | refine G.condYes rfl (by omega) ?_ | refine G.condNo rfl (by omega) ?_) | (with_reducible refine G.exit rfl ?_))
      refine G.sub .nil ?_
      refine G.ret2 ok rfl ?_
      exact ⟨_, _, rfl, .inr ⟨hk, .inr (.inl ⟨h0, .inl h1, rfl, rfl⟩)⟩, rfl, rfl⟩
    by_cases h2 : t.en < o
    · repeat (first | (with_reducible first | refine GL.nil ?_ | refine G.region ?_ | refine G.seq ?_ | refine G.skip ?_ | refine G.block ?_ | refine G.inBlock ?_ | refine G.label ?_) | ((with_reducible show GL _ _ _ _ (_ :: _) _ _ _ _); first | refine GL.p ?_ | refine GL.pK ?_ | refine GL.store ?_ | refine GL.storeN ?_ | refine GL.boxA (fun g => ?_) | refine GL.box1 (fun g => ?_) | refine GL.alloc1 rfl (fun g => ?_) | refine GL.allocA (fun g => ?_) | refine GL.no ?_) | ((with_reducible show G _ _ _ (Item.code (Code.cond _ _ _) :: _) _ _ _); first | refine G.condT rfl ?_ | refine G.condF rfl ?_ | refine G.condYes rfl (by omega) ?_ | refine G.condNo rfl (by omega) ?_) | (with_reducible refine G.exit rfl ?_))
      refine G.sub .nil ?_
      refine G.ret2 ok rfl ?_
      exact ⟨_, _, rfl, .inr ⟨hk, .inr (.inl ⟨h0, .inr h2, rfl, rfl⟩)⟩, rfl, rfl⟩
    have hm : (if o - t.st < 0 then 0 else o - t.st) = (((o - t.st).toNat : Nat) : Int) := by split <;> omega
    have hat := icells_at t.l (o - t.st).toNat (by omega)
    repeat (first | (with_reducible first | refine GL.nil ?_ | refine G.region ?_ | refine G.seq ?_ | refine G.skip ?_ | refine G.block ?_ | refine G.inBlock ?_ | refine G.label ?_) | ((with_reducible show GL _ _ _ _ (_ :: _) _ _ _ _); first | refine GL.p ?_ | refine GL.pK ?_ | refine GL.store ?_ | refine GL.storeN ?_ | refine GL.boxA (fun g => ?_) | refine GL.box1 (fun g => ?_) | refine GL.alloc1 rfl (fun g => ?_) | refine GL.allocA (fun g => ?_) | refine GL.no ?_) | ((with_reducible show G _ _ _ (Item.code (Code.cond _ _ _) :: _) _ _ _); first | refine G.condT rfl ?_ | refine G.condF rfl ?_ | refine G.condYes rfl (by omega) ?_ | refine G.condNo rfl (by omega) ?_) | (with_reducible refine G.exit rfl ?_))
    rw [hm]
    repeat (first | (with_reducible first | refine GL.nil ?_ | refine G.region ?_ | refine G.seq ?_ | refine G.skip ?_ | refine G.block ?_ | refine G.inBlock ?_ | refine G.label ?_) | ((with_reducible show GL _ _ _ _ (_ :: _) _ _ _ _); first | refine GL.p ?_ | refine GL.pK ?_ | refine GL.store ?_ | refine GL.storeN ?_ | refine GL.boxA (fun g => ?_) | refine GL.box1 (fun g => ?_) | refine GL.alloc1 rfl (fun g => ?_) | refine GL.allocA (fun g => ?_) | refine GL.no ?_) | ((with_reducible show G _ _ _ (Item.code (Code.cond _ _ _) :: _) _ _ _); first | refine G.condT rfl ?_ | refine G.condF rfl ?_ | refine G.condYes rfl (by omega) ?_ | refine G.condNo rfl (by omega) ?_) | (with_reducible refine G.exit rfl ?_))
    refine G.sub .nil ?_
    refine G.ret2 ok rfl ?_
    exact ⟨_, _, rfl, .inr ⟨hk, .inr (.inr ⟨by omega, by omega, rfl, rfl⟩)⟩, rfl, rfl⟩
  · repeat (first | (with_reducible first | refine GL.nil ?_ | refine G.region ?_ | refine G.seq ?_ | refine G.skip ?_ | refine G.block ?_ | refine G.inBlock ?_ | refine G.label ?_) | ((with_reducible show GL _ _ _ _ (_ :: _) _ _ _ _); first | refine GL.p ?_ | refine GL.pK ?_ | refine GL.store ?_ | refine GL.storeN ?_ | refine GL.boxA (fun g => ?_) | refine GL.box1 (fun g => ?_) | refine GL.alloc1 rfl (fun g => ?_) | refine GL.allocA (fun g => ?_) | refine GL.no ?_) | ((with_reducible show G _ _ _ (Item.code (Code.cond _ _ _) :: _) _ _ _); first | refine G.condT rfl ?_ | refine G.condF rfl ?_ | refine G.condYes rfl (by omega) ?_ | refine G.condNo rfl (by omega) ?_) | (with_reducible refine G.exit rfl ?_))
    refine G.sub .nil ?_
    refine G.ret2 ok rfl ?_
    exact ⟨_, _, rfl, .inl ⟨hk, rfl, rfl⟩, rfl, rfl⟩
set_option maxHeartbeats 4000000 in
theorem toR_calls (t : TabD) (o : Int) (s : Store) (ht : t.laid s) : Fn Try.prog 23 #[t.v, .int .i64 o] s [] (fun e s' h' => ∃ x y, e = .returned (.tuple #[.int .i64 x, .int .i64 y]) ∧ ToIs t o x y ∧ s' = s ∧ h' = []) := by
  have hl := ht.ilen
  refine Fn.intro (args := [t.v, .int .i64 o]) Try.func23 rfl Try.ntmps23 (Nat.le_of_ble_eq_true rfl) (fun C ok hh => ?_)
  repeat (first | (with_reducible first | refine GL.nil ?_ | refine G.region ?_ | refine G.seq ?_ | refine G.skip ?_ | refine G.block ?_ | refine G.inBlock ?_ | refine G.label ?_) | ((with_reducible show GL _ _ _ _ (_ :: _) _ _ _ _); first | refine GL.p ?_ | refine GL.pK ?_ | refine GL.store ?_ | refine GL.storeN ?_ | refine GL.boxA (fun g => ?_) | refine GL.box1 (fun g => ?_) | refine GL.alloc1 rfl (fun g => ?_) | refine GL.allocA (fun g => ?_) | refine GL.no ?_) | ((with_reducible show G _ _ _ (Item.code (Code.cond _ _ _) :: _) _ _ _); first | refine G.condT rfl ?_ | refine G.condF rfl ?_ | refine G.condYes rfl (by omega) ?_ | refine G.condNo rfl (by omega) ?_) | (with_reducible refine G.exit rfl ?_))
  refine GL.call rfl rfl (tcheckR_calls t s ht) .nil fun v s1 h1' hq hle => ?_
  obtain ⟨x, e1, hx, hs1, rfl⟩ := hq
  subst s1
  cases e1
  rw [List.nil_append]
  rcases hx with ⟨rfl, hk⟩ | ⟨rfl, hk⟩
  · have b0 := hk.st
    have b1 := hk.se
    have b2 := hk.en
    have b3 := hk.len
    by_cases h0 : o = -1
    · repeat (first | (with_reducible first | refine GL.nil ?_ | refine G.region ?_ | refine G.seq ?_ | refine G.skip ?_ | refine G.block ?_ | refine G.inBlock ?_ | refine G.label ?_) | ((with_reducible show GL _ _ _ _ (_ :: _) _ _ _ _); first | refine GL.p ?_ | refine GL.pK ?_ | refine GL.store ?_ | refine GL.storeN ?_ | refine GL.boxA (fun g => ?_) | refine GL.box1 (fun g => ?_) | refine GL.alloc1 rfl (fun g => ?_) | refine GL.allocA (fun g => ?_) | refine GL.no ?_) | ((with_reducible show G _ _ _ (Item.code (Code.cond _ _ _) :: _) _ _ _); first | refine G.condT rfl ?_ | refine G.condF rfl ?_ | refine G.condYes rfl (by omega) ?_ | refine G.condNo rfl (by omega) ?_) | (with_reducible refine G.exit rfl ?_))
      refine G.sub .nil ?_
      refine G.ret2 ok rfl ?_
      exact ⟨_, _, rfl, .inr ⟨hk, .inl ⟨h0, rfl, rfl⟩⟩, rfl, rfl⟩
    by_cases h1 : o < -1
    · repeat (first | (with_reducible first | refine GL.nil ?_ | refine G.region ?_ | refine G.seq ?_ | refine G.skip ?_ | refine G.block ?_ | refine G.inBlock ?_ | refine G.label ?_) | ((with_reducible show GL _ _ _ _ (_ :: _) _ _ _ _); first | refine GL.p ?_ | refine GL.pK ?_ | refine GL.store ?_ | refine GL.storeN ?_ | refine GL.boxA (fun g => ?_) | refine GL.box1 (fun g => ?_) | refine GL.alloc1 rfl (fun g => ?_) | refine GL.allocA (fun g => ?_) | refine GL.no ?_) | ((with_reducible show G _ _ _ (Item.code (Code.cond _ _ _) :: _) _ _ _); first | refine G.condT rfl ?_ | refine G.condF rfl ?_ | refine G.condYes rfl (by omega) ?_ | refine G.condNo rfl (by omega) ?_) | (with_reducible refine G.exit rfl ?_))
      refine G.sub .nil ?_
      refine G.ret2 ok rfl ?_
      exact ⟨_, _, rfl, .inr ⟨hk, .inr (.inl ⟨h0, .inl h1, rfl, rfl⟩)⟩, rfl, rfl⟩
    by_cases h2 : t.en < o
    · repeat (first | (with_reducible first | refine GL.nil ?_ | refine G.region ?_ | refine G.seq ?_ | refine G.skip ?_ | refine G.block ?_ | refine G.inBlock ?_ | refine G.label ?_) | ((with_reducible show GL _ _ _ _ (_ :: _) _ _ _ _); first | refine GL.p ?_ | refine GL.pK ?_ | refine GL.store ?_ | refine GL.storeN ?_ | refine GL.boxA (fun g => ?_) | refine GL.box1 (fun g => ?_) | refine GL.alloc1 rfl (fun g => ?_) | refine GL.allocA (fun g => ?_) | refine GL.no ?_) | ((with_reducible show G _ _ _ (Item.code (Code.cond _ _ _) :: _) _ _ _); first | refine G.condT rfl ?_ | refine G.condF rfl ?_ | refine G.condYes rfl (by omega) ?_ | refine G.condNo rfl (by omega) ?_) | (with_reducible refine G.exit rfl ?_))
      refine G.sub .nil ?_
      refine G.ret2 ok rfl ?_
      exact ⟨_, _, rfl, .inr ⟨hk, .inr (.inl ⟨h0, .inr h2, rfl, rfl⟩)⟩, rfl, rfl⟩
    have hm : (if 0 < o - t.st then o - t.st else 0) = (((o - t.st).toNat : Nat) : Int) := by split <;> omega
    have hat := icells_at t.l (o - t.st).toNat (by omega)
    repeat (first | (with_reducible first | refine GL.nil ?_ | refine G.region ?_ | refine G.seq ?_ | refine G.skip ?_ | refine G.block ?_ | refine G.inBlock ?_ | refine G.label ?_) | ((with_reducible show GL _ _ _ _ (_ :: _) _ _ _ _); first | refine GL.p ?_ | refine GL.pK ?_ | refine GL.store ?_ | refine GL.storeN ?_ | refine GL.boxA (fun g => ?_) | refine GL.box1 (fun g => ?_) | refine GL.alloc1 rfl (fun g => ?_) | refine GL.allocA (fun g => ?_) | refine GL.no ?_) | ((with_reducible show G _ _ _ (Item.code (Code.cond _ _ _) :: _) _ _ _); first | refine G.condT rfl ?_ | refine G.condF rfl ?_ | refine G.condYes rfl (by omega) ?_ | refine G.condNo rfl (by omega) ?_) | (with_reducible refine G.exit rfl ?_))
    rw [hm]
    repeat (first | (with_reducible first | refine GL.nil ?_ | refine G.region ?_ | refine G.seq ?_ | refine G.skip ?_ | refine G.block ?_ | refine G.inBlock ?_ | refine G.label ?_) | ((with_reducible show GL _ _ _ _ (_ :: _) _ _ _ _); first | refine GL.p ?_ | refine GL.pK ?_ | refine GL.store ?_ | refine GL.storeN ?_ | refine GL.boxA (fun g => ?_) | refine GL.box1 (fun g => ?_) | refine GL.alloc1 rfl (fun g => ?_) | refine GL.allocA (fun g => ?_) | refine GL.no ?_) | ((with_reducible show G _ _ _ (Item.code (Code.cond _ _ _) :: _) _ _ _); first | refine G.condT rfl ?_ | refine G.condF rfl ?_ | refine G.condYes rfl (by omega) ?_ | refine G.condNo rfl (by omega) ?_) | (with_reducible refine G.exit rfl ?_))
    refine G.sub .nil ?_
    refine G.ret2 ok rfl ?_
    exact ⟨_, _, rfl, .inr ⟨hk, .inr (.inr ⟨by omega, by omega, rfl, rfl⟩)⟩, rfl, rfl⟩
  · repeat (first | (with_reducible first | refine GL.nil ?_ | refine G.region ?_ | refine G.seq ?_ | refine G.skip ?_ | refine G.block ?_ | refine G.inBlock ?_ | refine G.label ?_) | ((with_reducible show GL _ _ _ _ (_ :: _) _ _ _ _); first | refine GL.p ?_ | refine GL.pK ?_ | refine GL.store ?_ | refine GL.storeN ?_ | refine GL.boxA (fun g => ?_) | refine GL.box1 (fun g => ?_) | refine GL.alloc1 rfl (fun g => ?_) | refine GL.allocA (fun g => ?_) | refine GL.no ?_) | ((with_reducible show G _ _ _ (Item.code (Code.cond _ _ _) :: _) _ _ _); first | refine G.condT rfl ?_ | refine G.condF rfl ?_ | refine G.condYes rfl (by omega) ?_ | refine G.condNo rfl (by omega) ?_) | (with_reducible refine G.exit rfl ?_))
    refine G.sub .nil ?_
    refine G.ret2 ok rfl ?_
    exact ⟨_, _, rfl, .inl ⟨hk, rfl, rfl⟩, rfl, rfl⟩
abbrev tabE (g : Nat) (t : TabD) : Ent := .blk g (.cells [Value.int .i64 t.st, .int .i64 t.en, .slice t.h.A t.h.n t.h.c].toArray 33 (0, 0))
abbrev intE (g : Nat) (x : Int) : Ent := .blk g (.cells [Value.int .i64 x].toArray 3 (0, 0))
theorem back1_calls (g2 g3 : Nat) (t : TabD) (o : Int) (i : Nat) (s : Store) (ht : t.laid s) (hi : i < t.h.n) : Fn Try.prog 39 #[.int .i64 i, .pointer (some ⟨g2, 0, none⟩), .pointer (some ⟨g3, 0, none⟩)] s [tabE g2 t, intE g3 o] (fun e s' h' => e = .returned (.bool (decide (o < nth t.l i))) ∧ s' = s ∧ h' = [tabE g2 t, intE g3 o]) := by
  have hl := ht.ilen
  have hat := icells_at t.l i (by omega)
  refine Fn.intro (args := [.int .i64 i, .pointer (some ⟨g2, 0, none⟩), .pointer (some ⟨g3, 0, none⟩)]) Try.func39 rfl Try.ntmps39 (Nat.le_of_ble_eq_true rfl) (fun C ok hh => ?_)
  by_cases h : o < nth t.l i
  all_goals
    repeat (first | (with_reducible first | refine GL.nil ?_ | refine G.region ?_ | refine G.seq ?_ | refine G.skip ?_ | refine G.block ?_ | refine G.inBlock ?_ | refine G.label ?_) | ((with_reducible show GL _ _ _ _ (_ :: _) _ _ _ _); first | refine GL.p ?_ | refine GL.pK ?_ | refine GL.store ?_ | refine GL.storeN ?_ | refine GL.boxA (fun g => ?_) | refine GL.box1 (fun g => ?_) | refine GL.alloc1 rfl (fun g => ?_) | refine GL.allocA (fun g => ?_) | refine GL.no ?_) | ((with_reducible show G _ _ _ (Item.code (Code.cond _ _ _) :: _) _ _ _); first | refine G.condT rfl ?_ | refine G.condF rfl ?_ | refine G.condYes rfl (by omega) ?_ | refine G.condNo rfl (by omega) ?_) | (with_reducible refine G.exit rfl ?_))
    refine G.draw0 (m := 8) (lay 8 0) follows_mixed ?_
    (first | refine GD.p 0 (lay 8 1) ?_ | refine GD.no 0 (lay 8 1) ?_); (first | refine GD.p 1 (lay 8 3) ?_ | refine GD.no 1 (lay 8 3) ?_); (first | refine GD.p 2 (lay 8 7) ?_ | refine GD.no 2 (lay 8 7) ?_); (first | refine GD.p 3 (lay 8 15) ?_ | refine GD.no 3 (lay 8 15) ?_); (first | refine GD.p 4 (lay 8 31) ?_ | refine GD.no 4 (lay 8 31) ?_); (first | refine GD.p 5 (lay 8 63) ?_ | refine GD.no 5 (lay 8 63) ?_); (first | refine GD.p 6 (lay 8 127) ?_ | refine GD.no 6 (lay 8 127) ?_); (first | refine GD.p 7 (lay 8 255) ?_ | refine GD.no 7 (lay 8 255) ?_)
    refine GD.nil ?_
    repeat (first | (with_reducible first | refine GL.nil ?_ | refine G.region ?_ | refine G.seq ?_ | refine G.skip ?_ | refine G.block ?_ | refine G.inBlock ?_ | refine G.label ?_) | ((with_reducible show GL _ _ _ _ (_ :: _) _ _ _ _); first | refine GL.p ?_ | refine GL.pK ?_ | refine GL.store ?_ | refine GL.storeN ?_ | refine GL.boxA (fun g => ?_) | refine GL.box1 (fun g => ?_) | refine GL.alloc1 rfl (fun g => ?_) | refine GL.allocA (fun g => ?_) | refine GL.no ?_) | ((with_reducible show G _ _ _ (Item.code (Code.cond _ _ _) :: _) _ _ _); first | refine G.condT rfl ?_ | refine G.condF rfl ?_ | refine G.condYes rfl (by omega) ?_ | refine G.condNo rfl (by omega) ?_) | (with_reducible refine G.exit rfl ?_))
    refine G.ret1 ok rfl ?_
    exact ⟨by simp only [h]; rfl, rfl, rfl⟩
set_option maxHeartbeats 4000000 in
theorem back_calls (t : TabD) (o : Int) (s : Store) (ht : t.laid s) : Fn Try.prog 22 #[t.v, .int .i64 o] s [] (fun e s' h' => ∃ m b, e = .returned (.tuple #[.int .i64 m, .bool b]) ∧ BackIs t o m b ∧ s' = s ∧ h' = []) := by
  have hl := ht.ilen
  refine Fn.intro (args := [t.v, .int .i64 o]) Try.func22 rfl Try.ntmps22 (Nat.le_of_ble_eq_true rfl) (fun C ok hh => ?_)
  repeat (first | (with_reducible first | refine GL.nil ?_ | refine G.region ?_ | refine G.seq ?_ | refine G.skip ?_ | refine G.block ?_ | refine G.inBlock ?_ | refine G.label ?_) | ((with_reducible show GL _ _ _ _ (_ :: _) _ _ _ _); first | refine GL.p ?_ | refine GL.pK ?_ | refine GL.store ?_ | refine GL.storeN ?_ | refine GL.boxA (fun g => ?_) | refine GL.box1 (fun g => ?_) | refine GL.alloc1 rfl (fun g => ?_) | refine GL.allocA (fun g => ?_) | refine GL.no ?_) | ((with_reducible show G _ _ _ (Item.code (Code.cond _ _ _) :: _) _ _ _); first | refine G.condT rfl ?_ | refine G.condF rfl ?_ | refine G.condYes rfl (by omega) ?_ | refine G.condNo rfl (by omega) ?_) | (with_reducible refine G.exit rfl ?_))
  rename_i g2
  refine GL.call rfl rfl (tcheck_calls t s ht) .nil fun v s1 h1' hq hle => ?_
  obtain ⟨x, e1, hx, hs1, rfl⟩ := hq
  subst s1
  cases e1
  rw [List.nil_append]
  rcases hx with ⟨rfl, hk⟩ | ⟨rfl, hk⟩
  · have b0 := hk.st
    have b1 := hk.se
    have b2 := hk.en
    have b3 := hk.len
    repeat (first | (with_reducible first | refine GL.nil ?_ | refine G.region ?_ | refine G.seq ?_ | refine G.skip ?_ | refine G.block ?_ | refine G.inBlock ?_ | refine G.label ?_) | ((with_reducible show GL _ _ _ _ (_ :: _) _ _ _ _); first | refine GL.p ?_ | refine GL.pK ?_ | refine GL.store ?_ | refine GL.storeN ?_ | refine GL.boxA (fun g => ?_) | refine GL.box1 (fun g => ?_) | refine GL.alloc1 rfl (fun g => ?_) | refine GL.allocA (fun g => ?_) | refine GL.no ?_) | ((with_reducible show G _ _ _ (Item.code (Code.cond _ _ _) :: _) _ _ _); first | refine G.condT rfl ?_ | refine G.condF rfl ?_ | refine G.condYes rfl (by omega) ?_ | refine G.condNo rfl (by omega) ?_) | (with_reducible refine G.exit rfl ?_))
    refine GL.call rfl rfl (search_calls t.h.n (fun i => decide (o < nth t.l i)) 39 [.pointer (some ⟨g2, 0, none⟩), .pointer (some ⟨g, 0, none⟩)] s [tabE g2 t, intE g o] (by omega) (fun i s' hi hle => back1_calls g2 g t o i s' (ht.le hle) hi)) (by (first | exact Split.refl _ | ((try dsimp only); repeat (first | exact Split.nil | (apply Split.cons; (repeat (first | exact Pick.head | apply Pick.tail))))))) fun v s1 h1' hq hle => ?_
    obtain ⟨k, e1, hk1, hk2, hk3, hs1, rfl⟩ := hq
    subst s1
    cases e1
    by_cases h0 : (k : Int) - 1 < 0
    · repeat (first | (with_reducible first | refine GL.nil ?_ | refine G.region ?_ | refine G.seq ?_ | refine G.skip ?_ | refine G.block ?_ | refine G.inBlock ?_ | refine G.label ?_) | ((with_reducible show GL _ _ _ _ (_ :: _) _ _ _ _); first | refine GL.p ?_ | refine GL.pK ?_ | refine GL.store ?_ | refine GL.storeN ?_ | refine GL.boxA (fun g => ?_) | refine GL.box1 (fun g => ?_) | refine GL.alloc1 rfl (fun g => ?_) | refine GL.allocA (fun g => ?_) | refine GL.no ?_) | ((with_reducible show G _ _ _ (Item.code (Code.cond _ _ _) :: _) _ _ _); first | refine G.condT rfl ?_ | refine G.condF rfl ?_ | refine G.condYes rfl (by omega) ?_ | refine G.condNo rfl (by omega) ?_) | (with_reducible refine G.exit rfl ?_))
      refine G.draw0 (m := 11) (lay 11 0) follows_mixed ?_
      (first | refine GD.p 0 (lay 11 1) ?_ | refine GD.no 0 (lay 11 1) ?_); (first | refine GD.p 1 (lay 11 3) ?_ | refine GD.no 1 (lay 11 3) ?_); (first | refine GD.p 2 (lay 11 7) ?_ | refine GD.no 2 (lay 11 7) ?_); (first | refine GD.p 3 (lay 11 15) ?_ | refine GD.no 3 (lay 11 15) ?_); (first | refine GD.p 4 (lay 11 31) ?_ | refine GD.no 4 (lay 11 31) ?_); (first | refine GD.p 5 (lay 11 63) ?_ | refine GD.no 5 (lay 11 63) ?_); (first | refine GD.p 6 (lay 11 127) ?_ | refine GD.no 6 (lay 11 127) ?_); (first | refine GD.p 7 (lay 11 255) ?_ | refine GD.no 7 (lay 11 255) ?_); (first | refine GD.p 8 (lay 11 511) ?_ | refine GD.no 8 (lay 11 511) ?_); (first | refine GD.p 9 (lay 11 1023) ?_ | refine GD.no 9 (lay 11 1023) ?_); (first | refine GD.p 10 (lay 11 2047) ?_ | refine GD.no 10 (lay 11 2047) ?_)
      refine GD.nil ?_
      repeat (first | (with_reducible first | refine GL.nil ?_ | refine G.region ?_ | refine G.seq ?_ | refine G.skip ?_ | refine G.block ?_ | refine G.inBlock ?_ | refine G.label ?_) | ((with_reducible show GL _ _ _ _ (_ :: _) _ _ _ _); first | refine GL.p ?_ | refine GL.pK ?_ | refine GL.store ?_ | refine GL.storeN ?_ | refine GL.boxA (fun g => ?_) | refine GL.box1 (fun g => ?_) | refine GL.alloc1 rfl (fun g => ?_) | refine GL.allocA (fun g => ?_) | refine GL.no ?_) | ((with_reducible show G _ _ _ (Item.code (Code.cond _ _ _) :: _) _ _ _); first | refine G.condT rfl ?_ | refine G.condF rfl ?_ | refine G.condYes rfl (by omega) ?_ | refine G.condNo rfl (by omega) ?_) | (with_reducible refine G.exit rfl ?_))
      refine G.sub .nil ?_
      refine G.ret2 ok rfl ?_
      refine ⟨_, _, rfl, .inr ⟨hk, .inr ⟨rfl, rfl, fun j hj => ?_⟩⟩, rfl, rfl⟩
      have h1 := of_decide_eq_true (hk3 (by omega))
      have h2 := up_mono hk.up (i := k) (j := j) (by omega) hj
      omega
    · have hat := icells_geti (l := t.l) (x := (k : Int) - 1) (i := k - 1) (by omega) (by omega)
      have hlow := of_decide_eq_false (hk2 (by omega))
      have habove : ∀ j, k ≤ j → j < t.h.n → nth t.l j ≠ o := fun j hj hj2 => by
        have h1 := of_decide_eq_true (hk3 (by omega))
        have h2 := up_mono hk.up (i := k) (j := j) hj hj2
        omega
      by_cases h1 : nth t.l (k - 1) ≠ o
      · repeat (first | (with_reducible first | refine GL.nil ?_ | refine G.region ?_ | refine G.seq ?_ | refine G.skip ?_ | refine G.block ?_ | refine G.inBlock ?_ | refine G.label ?_) | ((with_reducible show GL _ _ _ _ (_ :: _) _ _ _ _); first | refine GL.p ?_ | refine GL.pK ?_ | refine GL.store ?_ | refine GL.storeN ?_ | refine GL.boxA (fun g => ?_) | refine GL.box1 (fun g => ?_) | refine GL.alloc1 rfl (fun g => ?_) | refine GL.allocA (fun g => ?_) | refine GL.no ?_) | ((with_reducible show G _ _ _ (Item.code (Code.cond _ _ _) :: _) _ _ _); first | refine G.condT rfl ?_ | refine G.condF rfl ?_ | refine G.condYes rfl (by omega) ?_ | refine G.condNo rfl (by omega) ?_) | (with_reducible refine G.exit rfl ?_))
        refine G.draw0 (m := 11) (lay 11 0) follows_mixed ?_
        (first | refine GD.p 0 (lay 11 1) ?_ | refine GD.no 0 (lay 11 1) ?_); (first | refine GD.p 1 (lay 11 3) ?_ | refine GD.no 1 (lay 11 3) ?_); (first | refine GD.p 2 (lay 11 7) ?_ | refine GD.no 2 (lay 11 7) ?_); (first | refine GD.p 3 (lay 11 15) ?_ | refine GD.no 3 (lay 11 15) ?_); (first | refine GD.p 4 (lay 11 31) ?_ | refine GD.no 4 (lay 11 31) ?_); (first | refine GD.p 5 (lay 11 63) ?_ | refine GD.no 5 (lay 11 63) ?_); (first | refine GD.p 6 (lay 11 127) ?_ | refine GD.no 6 (lay 11 127) ?_); (first | refine GD.p 7 (lay 11 255) ?_ | refine GD.no 7 (lay 11 255) ?_); (first | refine GD.p 8 (lay 11 511) ?_ | refine GD.no 8 (lay 11 511) ?_); (first | refine GD.p 9 (lay 11 1023) ?_ | refine GD.no 9 (lay 11 1023) ?_); (first | refine GD.p 10 (lay 11 2047) ?_ | refine GD.no 10 (lay 11 2047) ?_)
        refine GD.nil ?_
        repeat (first | (with_reducible first | refine GL.nil ?_ | refine G.region ?_ | refine G.seq ?_ | refine G.skip ?_ | refine G.block ?_ | refine G.inBlock ?_ | refine G.label ?_) | ((with_reducible show GL _ _ _ _ (_ :: _) _ _ _ _); first | refine GL.p ?_ | refine GL.pK ?_ | refine GL.store ?_ | refine GL.storeN ?_ | refine GL.boxA (fun g => ?_) | refine GL.box1 (fun g => ?_) | refine GL.alloc1 rfl (fun g => ?_) | refine GL.allocA (fun g => ?_) | refine GL.no ?_) | ((with_reducible show G _ _ _ (Item.code (Code.cond _ _ _) :: _) _ _ _); first | refine G.condT rfl ?_ | refine G.condF rfl ?_ | refine G.condYes rfl (by omega) ?_ | refine G.condNo rfl (by omega) ?_) | (with_reducible refine G.exit rfl ?_))
        refine G.sub .nil ?_
        refine G.ret2 ok rfl ?_
        refine ⟨_, _, rfl, .inr ⟨hk, .inr ⟨rfl, rfl, fun j hj => ?_⟩⟩, rfl, rfl⟩
        rcases Nat.lt_or_ge j k with h | h
        · have h2 := up_mono hk.up (i := j) (j := k - 1) (by omega) (by omega)
          omega
        · exact habove j h hj
      · repeat (first | (with_reducible first | refine GL.nil ?_ | refine G.region ?_ | refine G.seq ?_ | refine G.skip ?_ | refine G.block ?_ | refine G.inBlock ?_ | refine G.label ?_) | ((with_reducible show GL _ _ _ _ (_ :: _) _ _ _ _); first | refine GL.p ?_ | refine GL.pK ?_ | refine GL.store ?_ | refine GL.storeN ?_ | refine GL.boxA (fun g => ?_) | refine GL.box1 (fun g => ?_) | refine GL.alloc1 rfl (fun g => ?_) | refine GL.allocA (fun g => ?_) | refine GL.no ?_) | ((with_reducible show G _ _ _ (Item.code (Code.cond _ _ _) :: _) _ _ _); first | refine G.condT rfl ?_ | refine G.condF rfl ?_ | refine G.condYes rfl (by omega) ?_ | refine G.condNo rfl (by omega) ?_) | (with_reducible refine G.exit rfl ?_))
        refine G.draw0 (m := 11) (lay 11 0) follows_mixed ?_
        (first | refine GD.p 0 (lay 11 1) ?_ | refine GD.no 0 (lay 11 1) ?_); (first | refine GD.p 1 (lay 11 3) ?_ | refine GD.no 1 (lay 11 3) ?_); (first | refine GD.p 2 (lay 11 7) ?_ | refine GD.no 2 (lay 11 7) ?_); (first | refine GD.p 3 (lay 11 15) ?_ | refine GD.no 3 (lay 11 15) ?_); (first | refine GD.p 4 (lay 11 31) ?_ | refine GD.no 4 (lay 11 31) ?_); (first | refine GD.p 5 (lay 11 63) ?_ | refine GD.no 5 (lay 11 63) ?_); (first | refine GD.p 6 (lay 11 127) ?_ | refine GD.no 6 (lay 11 127) ?_); (first | refine GD.p 7 (lay 11 255) ?_ | refine GD.no 7 (lay 11 255) ?_); (first | refine GD.p 8 (lay 11 511) ?_ | refine GD.no 8 (lay 11 511) ?_); (first | refine GD.p 9 (lay 11 1023) ?_ | refine GD.no 9 (lay 11 1023) ?_); (first | refine GD.p 10 (lay 11 2047) ?_ | refine GD.no 10 (lay 11 2047) ?_)
        refine GD.nil ?_
        repeat (first | (with_reducible first | refine GL.nil ?_ | refine G.region ?_ | refine G.seq ?_ | refine G.skip ?_ | refine G.block ?_ | refine G.inBlock ?_ | refine G.label ?_) | ((with_reducible show GL _ _ _ _ (_ :: _) _ _ _ _); first | refine GL.p ?_ | refine GL.pK ?_ | refine GL.store ?_ | refine GL.storeN ?_ | refine GL.boxA (fun g => ?_) | refine GL.box1 (fun g => ?_) | refine GL.alloc1 rfl (fun g => ?_) | refine GL.allocA (fun g => ?_) | refine GL.no ?_) | ((with_reducible show G _ _ _ (Item.code (Code.cond _ _ _) :: _) _ _ _); first | refine G.condT rfl ?_ | refine G.condF rfl ?_ | refine G.condYes rfl (by omega) ?_ | refine G.condNo rfl (by omega) ?_) | (with_reducible refine G.exit rfl ?_))
        refine G.sub .nil ?_
        refine G.ret2 ok rfl ?_
        exact ⟨_, _, rfl, .inr ⟨hk, .inl ⟨rfl, k - 1, by omega, by omega, fun j hj hj2 => habove j (by omega) hj2, by omega⟩⟩, rfl, rfl⟩
  · repeat (first | (with_reducible first | refine GL.nil ?_ | refine G.region ?_ | refine G.seq ?_ | refine G.skip ?_ | refine G.block ?_ | refine G.inBlock ?_ | refine G.label ?_) | ((with_reducible show GL _ _ _ _ (_ :: _) _ _ _ _); first | refine GL.p ?_ | refine GL.pK ?_ | refine GL.store ?_ | refine GL.storeN ?_ | refine GL.boxA (fun g => ?_) | refine GL.box1 (fun g => ?_) | refine GL.alloc1 rfl (fun g => ?_) | refine GL.allocA (fun g => ?_) | refine GL.no ?_) | ((with_reducible show G _ _ _ (Item.code (Code.cond _ _ _) :: _) _ _ _); first | refine G.condT rfl ?_ | refine G.condF rfl ?_ | refine G.condYes rfl (by omega) ?_ | refine G.condNo rfl (by omega) ?_) | (with_reducible refine G.exit rfl ?_))
    refine G.sub .nil ?_
    refine G.ret2 ok rfl ?_
    exact ⟨_, _, rfl, .inl ⟨hk, rfl, rfl⟩, rfl, rfl⟩
set_option maxHeartbeats 4000000 in
theorem backR_calls (t : TabD) (o : Int) (s : Store) (ht : t.laid s) : Fn Try.prog 24 #[t.v, .int .i64 o] s [] (fun e s' h' => ∃ m b, e = .returned (.tuple #[.int .i64 m, .bool b]) ∧ BackIs t o m b ∧ s' = s ∧ h' = []) := by
  have hl := ht.ilen
  refine Fn.intro (args := [t.v, .int .i64 o]) Try.func24 rfl Try.ntmps24 (Nat.le_of_ble_eq_true rfl) (fun C ok hh => ?_)
  repeat (first | (with_reducible first | refine GL.nil ?_ | refine G.region ?_ | refine G.seq ?_ | refine G.skip ?_ | refine G.block ?_ | refine G.inBlock ?_ | refine G.label ?_) | ((with_reducible show GL _ _ _ _ (_ :: _) _ _ _ _); first | refine GL.p ?_ | refine GL.pK ?_ | refine GL.store ?_ | refine GL.storeN ?_ | refine GL.boxA (fun g => ?_) | refine GL.box1 (fun g => ?_) | refine GL.alloc1 rfl (fun g => ?_) | refine GL.allocA (fun g => ?_) | refine GL.no ?_) | ((with_reducible show G _ _ _ (Item.code (Code.cond _ _ _) :: _) _ _ _); first | refine G.condT rfl ?_ | refine G.condF rfl ?_ | refine G.condYes rfl (by omega) ?_ | refine G.condNo rfl (by omega) ?_) | (with_reducible refine G.exit rfl ?_))
  refine GL.call rfl rfl (tcheckR_calls t s ht) .nil fun v s1 h1' hq hle => ?_
  obtain ⟨x, e1, hx, hs1, rfl⟩ := hq
  subst s1
  cases e1
  rw [List.nil_append]
  rcases hx with ⟨rfl, hk⟩ | ⟨rfl, hk⟩
  · have b0 := hk.st
    have b1 := hk.se
    have b2 := hk.en
    have b3 := hk.len
    repeat (first | (with_reducible first | refine GL.nil ?_ | refine G.region ?_ | refine G.seq ?_ | refine G.skip ?_ | refine G.block ?_ | refine G.inBlock ?_ | refine G.label ?_) | ((with_reducible show GL _ _ _ _ (_ :: _) _ _ _ _); first | refine GL.p ?_ | refine GL.pK ?_ | refine GL.store ?_ | refine GL.storeN ?_ | refine GL.boxA (fun g => ?_) | refine GL.box1 (fun g => ?_) | refine GL.alloc1 rfl (fun g => ?_) | refine GL.allocA (fun g => ?_) | refine GL.no ?_) | ((with_reducible show G _ _ _ (Item.code (Code.cond _ _ _) :: _) _ _ _); first | refine G.condT rfl ?_ | refine G.condF rfl ?_ | refine G.condYes rfl (by omega) ?_ | refine G.condNo rfl (by omega) ?_) | (with_reducible refine G.exit rfl ?_))
    refine G.loop (fun x : Nat => [(1, .int .i64 o), (2, .pointer (some ⟨g, 0, none⟩)), (6, .int .i64 ((x : Int) - 1))]) (fun _ => [tabE g t]) (fun x s' => s' = s ∧ x ≤ t.h.n ∧ ∀ j, x ≤ j → j < t.h.n → nth t.l j ≠ o) (fun x => x) t.h.n (by ((repeat' (first | exact trivial | refine And.intro ?_ ?_)); all_goals (first | (refine congrArg some (congrArg (Value.int _) ?_); (try dsimp only); omega) | exact rfl))) (by (first | exact Split.refl _ | ((try dsimp only); repeat (first | exact Split.nil | (apply Split.cons; (repeat (first | exact Pick.head | apply Pick.tail))))))) ⟨rfl, Nat.le_refl _, fun j h h2 => by omega⟩ ?_
    rintro x s' ⟨rfl, hx, ha⟩ ih
    try dsimp only
    by_cases hp : 0 ≤ (x : Int) - 1
    · have hat := icells_geti (l := t.l) (x := (x : Int) - 1) (i := x - 1) (by omega) (by omega)
      by_cases h1 : nth t.l (x - 1) = o
      · repeat (first | (with_reducible first | refine GL.nil ?_ | refine G.region ?_ | refine G.seq ?_ | refine G.skip ?_ | refine G.block ?_ | refine G.inBlock ?_ | refine G.label ?_) | ((with_reducible show GL _ _ _ _ (_ :: _) _ _ _ _); first | refine GL.p ?_ | refine GL.pK ?_ | refine GL.store ?_ | refine GL.storeN ?_ | refine GL.boxA (fun g => ?_) | refine GL.box1 (fun g => ?_) | refine GL.alloc1 rfl (fun g => ?_) | refine GL.allocA (fun g => ?_) | refine GL.no ?_) | ((with_reducible show G _ _ _ (Item.code (Code.cond _ _ _) :: _) _ _ _); first | refine G.condT rfl ?_ | refine G.condF rfl ?_ | refine G.condYes rfl (by omega) ?_ | refine G.condNo rfl (by omega) ?_) | (with_reducible refine G.exit rfl ?_))
        refine G.sub .nil ?_
        refine G.ret2 ok rfl ?_
        exact ⟨_, _, rfl, .inr ⟨hk, .inl ⟨rfl, x - 1, by omega, h1, fun j hj hj2 => ha j (by omega) hj2, by omega⟩⟩, rfl, rfl⟩
      · repeat (first | (with_reducible first | refine GL.nil ?_ | refine G.region ?_ | refine G.seq ?_ | refine G.skip ?_ | refine G.block ?_ | refine G.inBlock ?_ | refine G.label ?_) | ((with_reducible show GL _ _ _ _ (_ :: _) _ _ _ _); first | refine GL.p ?_ | refine GL.pK ?_ | refine GL.store ?_ | refine GL.storeN ?_ | refine GL.boxA (fun g => ?_) | refine GL.box1 (fun g => ?_) | refine GL.alloc1 rfl (fun g => ?_) | refine GL.allocA (fun g => ?_) | refine GL.no ?_) | ((with_reducible show G _ _ _ (Item.code (Code.cond _ _ _) :: _) _ _ _); first | refine G.condT rfl ?_ | refine G.condF rfl ?_ | refine G.condYes rfl (by omega) ?_ | refine G.condNo rfl (by omega) ?_) | (with_reducible refine G.exit rfl ?_))
        refine ih (x - 1) _ _ _ _ (by ((repeat' (first | exact trivial | refine And.intro ?_ ?_)); all_goals (first | (refine congrArg some (congrArg (Value.int _) ?_); (try dsimp only); omega) | exact rfl))) (by (first | exact Split.refl _ | ((try dsimp only); repeat (first | exact Split.nil | (apply Split.cons; (repeat (first | exact Pick.head | apply Pick.tail))))))) ⟨rfl, by omega, fun j hj hj2 => ?_⟩ (by omega)
        rcases Nat.lt_or_ge j x with h | h
        · obtain rfl : j = x - 1 := by omega
          exact h1
        · exact ha j h hj2
    · repeat (first | (with_reducible first | refine GL.nil ?_ | refine G.region ?_ | refine G.seq ?_ | refine G.skip ?_ | refine G.block ?_ | refine G.inBlock ?_ | refine G.label ?_) | ((with_reducible show GL _ _ _ _ (_ :: _) _ _ _ _); first | refine GL.p ?_ | refine GL.pK ?_ | refine GL.store ?_ | refine GL.storeN ?_ | refine GL.boxA (fun g => ?_) | refine GL.box1 (fun g => ?_) | refine GL.alloc1 rfl (fun g => ?_) | refine GL.allocA (fun g => ?_) | refine GL.no ?_) | ((with_reducible show G _ _ _ (Item.code (Code.cond _ _ _) :: _) _ _ _); first | refine G.condT rfl ?_ | refine G.condF rfl ?_ | refine G.condYes rfl (by omega) ?_ | refine G.condNo rfl (by omega) ?_) | (with_reducible refine G.exit rfl ?_))
      refine G.sub .nil ?_
      refine G.ret2 ok rfl ?_
      exact ⟨_, _, rfl, .inr ⟨hk, .inr ⟨rfl, rfl, fun j hj => ha j (by omega) hj⟩⟩, rfl, rfl⟩
  · repeat (first | (with_reducible first | refine GL.nil ?_ | refine G.region ?_ | refine G.seq ?_ | refine G.skip ?_ | refine G.block ?_ | refine G.inBlock ?_ | refine G.label ?_) | ((with_reducible show GL _ _ _ _ (_ :: _) _ _ _ _); first | refine GL.p ?_ | refine GL.pK ?_ | refine GL.store ?_ | refine GL.storeN ?_ | refine GL.boxA (fun g => ?_) | refine GL.box1 (fun g => ?_) | refine GL.alloc1 rfl (fun g => ?_) | refine GL.allocA (fun g => ?_) | refine GL.no ?_) | ((with_reducible show G _ _ _ (Item.code (Code.cond _ _ _) :: _) _ _ _); first | refine G.condT rfl ?_ | refine G.condF rfl ?_ | refine G.condYes rfl (by omega) ?_ | refine G.condNo rfl (by omega) ?_) | (with_reducible refine G.exit rfl ?_))
    refine G.sub .nil ?_
    refine G.ret2 ok rfl ?_
    exact ⟨_, _, rfl, .inl ⟨hk, rfl, rfl⟩, rfl, rfl⟩
theorem nth_ext {l l' : List Int} (h : l.length = l'.length) (he : ∀ j, j < l.length → nth l j = nth l' j) : l = l' := by
  apply List.ext_getElem h
  intro i h1 h2
  rw [nth_of h1, nth_of h2]
  exact he i h1
set_option maxHeartbeats 4000000 in
theorem equal_calls (A : Option Addr) (n c : Nat) (l : List Int) (A' : Option Addr) (n' c' : Nat) (l' : List Int) (s : Store) (hs : Is s A n c l) (hs' : Is s A' n' c' l') : Fn Try.prog 41 #[.slice A n c, .slice A' n' c'] s [] (fun e s' h' => e = .returned (.bool (decide (l = l'))) ∧ s' = s ∧ h' = []) := by
  have hl := hs.ilen
  have hl' := hs'.ilen
  have hcap := hs.cap
  have hmax := hs.max
  refine Fn.intro (args := [.slice A n c, .slice A' n' c']) Try.func41 rfl Try.ntmps41 (Nat.le_of_ble_eq_true rfl) (fun C ok hh => ?_)
  by_cases h0 : (n : Int) ≠ n'
  · repeat (first | (with_reducible first | refine GL.nil ?_ | refine G.region ?_ | refine G.seq ?_ | refine G.skip ?_ | refine G.block ?_ | refine G.inBlock ?_ | refine G.label ?_) | ((with_reducible show GL _ _ _ _ (_ :: _) _ _ _ _); first | refine GL.p ?_ | refine GL.pK ?_ | refine GL.store ?_ | refine GL.storeN ?_ | refine GL.boxA (fun g => ?_) | refine GL.box1 (fun g => ?_) | refine GL.alloc1 rfl (fun g => ?_) | refine GL.allocA (fun g => ?_) | refine GL.no ?_) | ((with_reducible show G _ _ _ (Item.code (Code.cond _ _ _) :: _) _ _ _); first | refine G.condT rfl ?_ | refine G.condF rfl ?_ | refine G.condYes rfl (by omega) ?_ | refine G.condNo rfl (by omega) ?_) | (with_reducible refine G.exit rfl ?_))
    refine G.ret1 ok rfl ?_
    refine ⟨?_, rfl, rfl⟩
    rw [decide_eq_false]
    rintro rfl
    omega
  obtain rfl : n = n' := by omega
  repeat (first | (with_reducible first | refine GL.nil ?_ | refine G.region ?_ | refine G.seq ?_ | refine G.skip ?_ | refine G.block ?_ | refine G.inBlock ?_ | refine G.label ?_) | ((with_reducible show GL _ _ _ _ (_ :: _) _ _ _ _); first | refine GL.p ?_ | refine GL.pK ?_ | refine GL.store ?_ | refine GL.storeN ?_ | refine GL.boxA (fun g => ?_) | refine GL.box1 (fun g => ?_) | refine GL.alloc1 rfl (fun g => ?_) | refine GL.allocA (fun g => ?_) | refine GL.no ?_) | ((with_reducible show G _ _ _ (Item.code (Code.cond _ _ _) :: _) _ _ _); first | refine G.condT rfl ?_ | refine G.condF rfl ?_ | refine G.condYes rfl (by omega) ?_ | refine G.condNo rfl (by omega) ?_) | (with_reducible refine G.exit rfl ?_))
  refine G.loop (fun i : Nat => [(0, .slice A n c), (1, .slice A' n c'), (12, .int .i64 n), (13, .int .i64 i)]) (fun _ => []) (fun i s' => s' = s ∧ i ≤ n ∧ ∀ j, j < i → nth l j = nth l' j) (fun i => n - i) 0 (by ((repeat' (first | exact trivial | refine And.intro ?_ ?_)); all_goals (first | (refine congrArg some (congrArg (Value.int _) ?_); (try dsimp only); omega) | exact rfl))) .nil ⟨rfl, Nat.zero_le _, fun j h => by omega⟩ ?_
  rintro i s' ⟨rfl, hi, ha⟩ ih
  try dsimp only
  by_cases hlt : i < n
  · have hat := icells_at l i (by omega)
    have hat' := icells_at l' i (by omega)
    by_cases h1 : nth l i ≠ nth l' i
    · repeat (first | (with_reducible first | refine GL.nil ?_ | refine G.region ?_ | refine G.seq ?_ | refine G.skip ?_ | refine G.block ?_ | refine G.inBlock ?_ | refine G.label ?_) | ((with_reducible show GL _ _ _ _ (_ :: _) _ _ _ _); first | refine GL.p ?_ | refine GL.pK ?_ | refine GL.store ?_ | refine GL.storeN ?_ | refine GL.boxA (fun g => ?_) | refine GL.box1 (fun g => ?_) | refine GL.alloc1 rfl (fun g => ?_) | refine GL.allocA (fun g => ?_) | refine GL.no ?_) | ((with_reducible show G _ _ _ (Item.code (Code.cond _ _ _) :: _) _ _ _); first | refine G.condT rfl ?_ | refine G.condF rfl ?_ | refine G.condYes rfl (by omega) ?_ | refine G.condNo rfl (by omega) ?_) | (with_reducible refine G.exit rfl ?_))
      refine G.draw0 (m := 9) (lay 9 0) follows_mixed ?_
      (first | refine GD.p 0 (lay 9 1) ?_ | refine GD.no 0 (lay 9 1) ?_); (first | refine GD.p 1 (lay 9 3) ?_ | refine GD.no 1 (lay 9 3) ?_); (first | refine GD.p 2 (lay 9 7) ?_ | refine GD.no 2 (lay 9 7) ?_); (first | refine GD.p 3 (lay 9 15) ?_ | refine GD.no 3 (lay 9 15) ?_); (first | refine GD.p 4 (lay 9 31) ?_ | refine GD.no 4 (lay 9 31) ?_); (first | refine GD.p 5 (lay 9 63) ?_ | refine GD.no 5 (lay 9 63) ?_); (first | refine GD.p 6 (lay 9 127) ?_ | refine GD.no 6 (lay 9 127) ?_); (first | refine GD.p 7 (lay 9 255) ?_ | refine GD.no 7 (lay 9 255) ?_); (first | refine GD.p 8 (lay 9 511) ?_ | refine GD.no 8 (lay 9 511) ?_)
      refine GD.nil ?_
      repeat (first | (with_reducible first | refine GL.nil ?_ | refine G.region ?_ | refine G.seq ?_ | refine G.skip ?_ | refine G.block ?_ | refine G.inBlock ?_ | refine G.label ?_) | ((with_reducible show GL _ _ _ _ (_ :: _) _ _ _ _); first | refine GL.p ?_ | refine GL.pK ?_ | refine GL.store ?_ | refine GL.storeN ?_ | refine GL.boxA (fun g => ?_) | refine GL.box1 (fun g => ?_) | refine GL.alloc1 rfl (fun g => ?_) | refine GL.allocA (fun g => ?_) | refine GL.no ?_) | ((with_reducible show G _ _ _ (Item.code (Code.cond _ _ _) :: _) _ _ _); first | refine G.condT rfl ?_ | refine G.condF rfl ?_ | refine G.condYes rfl (by omega) ?_ | refine G.condNo rfl (by omega) ?_) | (with_reducible refine G.exit rfl ?_))
      refine G.ret1 ok rfl ?_
      refine ⟨?_, rfl, rfl⟩
      rw [decide_eq_false]
      rintro rfl
      exact h1 rfl
    · repeat (first | (with_reducible first | refine GL.nil ?_ | refine G.region ?_ | refine G.seq ?_ | refine G.skip ?_ | refine G.block ?_ | refine G.inBlock ?_ | refine G.label ?_) | ((with_reducible show GL _ _ _ _ (_ :: _) _ _ _ _); first | refine GL.p ?_ | refine GL.pK ?_ | refine GL.store ?_ | refine GL.storeN ?_ | refine GL.boxA (fun g => ?_) | refine GL.box1 (fun g => ?_) | refine GL.alloc1 rfl (fun g => ?_) | refine GL.allocA (fun g => ?_) | refine GL.no ?_) | ((with_reducible show G _ _ _ (Item.code (Code.cond _ _ _) :: _) _ _ _); first | refine G.condT rfl ?_ | refine G.condF rfl ?_ | refine G.condYes rfl (by omega) ?_ | refine G.condNo rfl (by omega) ?_) | (with_reducible refine G.exit rfl ?_))
      refine G.draw0 (m := 9) (lay 9 0) follows_mixed ?_
      (first | refine GD.p 0 (lay 9 1) ?_ | refine GD.no 0 (lay 9 1) ?_); (first | refine GD.p 1 (lay 9 3) ?_ | refine GD.no 1 (lay 9 3) ?_); (first | refine GD.p 2 (lay 9 7) ?_ | refine GD.no 2 (lay 9 7) ?_); (first | refine GD.p 3 (lay 9 15) ?_ | refine GD.no 3 (lay 9 15) ?_); (first | refine GD.p 4 (lay 9 31) ?_ | refine GD.no 4 (lay 9 31) ?_); (first | refine GD.p 5 (lay 9 63) ?_ | refine GD.no 5 (lay 9 63) ?_); (first | refine GD.p 6 (lay 9 127) ?_ | refine GD.no 6 (lay 9 127) ?_); (first | refine GD.p 7 (lay 9 255) ?_ | refine GD.no 7 (lay 9 255) ?_); (first | refine GD.p 8 (lay 9 511) ?_ | refine GD.no 8 (lay 9 511) ?_)
      refine GD.nil ?_
      repeat (first | (with_reducible first | refine GL.nil ?_ | refine G.region ?_ | refine G.seq ?_ | refine G.skip ?_ | refine G.block ?_ | refine G.inBlock ?_ | refine G.label ?_) | ((with_reducible show GL _ _ _ _ (_ :: _) _ _ _ _); first | refine GL.p ?_ | refine GL.pK ?_ | refine GL.store ?_ | refine GL.storeN ?_ | refine GL.boxA (fun g => ?_) | refine GL.box1 (fun g => ?_) | refine GL.alloc1 rfl (fun g => ?_) | refine GL.allocA (fun g => ?_) | refine GL.no ?_) | ((with_reducible show G _ _ _ (Item.code (Code.cond _ _ _) :: _) _ _ _); first | refine G.condT rfl ?_ | refine G.condF rfl ?_ | refine G.condYes rfl (by omega) ?_ | refine G.condNo rfl (by omega) ?_) | (with_reducible refine G.exit rfl ?_))
      refine ih (i + 1) _ _ _ _ (by ((repeat' (first | exact trivial | refine And.intro ?_ ?_)); all_goals (first | (refine congrArg some (congrArg (Value.int _) ?_); (try dsimp only); omega) | exact rfl))) .nil ⟨rfl, by omega, fun j hj => ?_⟩ (by omega)
      rcases Nat.lt_or_ge j i with h | h
      · exact ha j h
      · obtain rfl : j = i := by omega
        omega
  · obtain rfl : i = n := by omega
    repeat (first | (with_reducible first | refine GL.nil ?_ | refine G.region ?_ | refine G.seq ?_ | refine G.skip ?_ | refine G.block ?_ | refine G.inBlock ?_ | refine G.label ?_) | ((with_reducible show GL _ _ _ _ (_ :: _) _ _ _ _); first | refine GL.p ?_ | refine GL.pK ?_ | refine GL.store ?_ | refine GL.storeN ?_ | refine GL.boxA (fun g => ?_) | refine GL.box1 (fun g => ?_) | refine GL.alloc1 rfl (fun g => ?_) | refine GL.allocA (fun g => ?_) | refine GL.no ?_) | ((with_reducible show G _ _ _ (Item.code (Code.cond _ _ _) :: _) _ _ _); first | refine G.condT rfl ?_ | refine G.condF rfl ?_ | refine G.condYes rfl (by omega) ?_ | refine G.condNo rfl (by omega) ?_) | (with_reducible refine G.exit rfl ?_))
    refine G.ret1 ok rfl ?_
    refine ⟨?_, rfl, rfl⟩
    rw [decide_eq_true]
    exact nth_ext (by omega) (fun j hj => ha j (by omega))
def TabD.same (t u : TabD) : Prop := t.st = u.st ∧ t.en = u.en ∧ t.l = u.l
instance (t u : TabD) : Decidable (t.same u) := by unfold TabD.same; infer_instance
set_option maxHeartbeats 4000000 in
theorem tsame_calls (t u : TabD) (s : Store) (ht : t.laid s) (hu : u.laid s) : Fn Try.prog 27 #[t.v, u.v] s [] (fun e s' h' => e = .returned (.bool (decide (t.same u))) ∧ s' = s ∧ h' = []) := by
  refine Fn.intro (args := [t.v, u.v]) Try.func27 rfl Try.ntmps27 (Nat.le_of_ble_eq_true rfl) (fun C ok hh => ?_)
  by_cases h0 : t.st = u.st
  · by_cases h1 : t.en = u.en
    · repeat (first | (with_reducible first | refine GL.nil ?_ | refine G.region ?_ | refine G.seq ?_ | refine G.skip ?_ | refine G.block ?_ | refine G.inBlock ?_ | refine G.label ?_) | ((with_reducible show GL _ _ _ _ (_ :: _) _ _ _ _); first | refine GL.p ?_ | refine GL.pK ?_ | refine GL.store ?_ | refine GL.storeN ?_ | refine GL.boxA (fun g => ?_) | refine GL.box1 (fun g => ?_) | refine GL.alloc1 rfl (fun g => ?_) | refine GL.allocA (fun g => ?_) | refine GL.no ?_) | ((with_reducible show G _ _ _ (Item.code (Code.cond _ _ _) :: _) _ _ _); first | refine G.condT rfl ?_ | refine G.condF rfl ?_ | refine G.condYes rfl (by omega) ?_ | refine G.condNo rfl (by omega) ?_) | (with_reducible refine G.exit rfl ?_))
      refine GL.call rfl rfl (equal_calls _ _ _ _ _ _ _ _ s ht hu) .nil fun v s1 h1' hq hle => ?_
      obtain ⟨e1, hs1, rfl⟩ := hq
      subst s1
      cases e1
      rw [List.nil_append]
      repeat (first | (with_reducible first | refine GL.nil ?_ | refine G.region ?_ | refine G.seq ?_ | refine G.skip ?_ | refine G.block ?_ | refine G.inBlock ?_ | refine G.label ?_) | ((with_reducible show GL _ _ _ _ (_ :: _) _ _ _ _); first | refine GL.p ?_ | refine GL.pK ?_ | refine GL.store ?_ | refine GL.storeN ?_ | refine GL.boxA (fun g => ?_) | refine GL.box1 (fun g => ?_) | refine GL.alloc1 rfl (fun g => ?_) | refine GL.allocA (fun g => ?_) | refine GL.no ?_) | ((with_reducible show G _ _ _ (Item.code (Code.cond _ _ _) :: _) _ _ _); first | refine G.condT rfl ?_ | refine G.condF rfl ?_ | refine G.condYes rfl (by omega) ?_ | refine G.condNo rfl (by omega) ?_) | (with_reducible refine G.exit rfl ?_))
      refine G.sub .nil ?_
      refine G.ret1 ok rfl ?_
      refine ⟨?_, rfl, rfl⟩
      simp only [TabD.same, h0, h1, true_and]
    · repeat (first | (with_reducible first | refine GL.nil ?_ | refine G.region ?_ | refine G.seq ?_ | refine G.skip ?_ | refine G.block ?_ | refine G.inBlock ?_ | refine G.label ?_) | ((with_reducible show GL _ _ _ _ (_ :: _) _ _ _ _); first | refine GL.p ?_ | refine GL.pK ?_ | refine GL.store ?_ | refine GL.storeN ?_ | refine GL.boxA (fun g => ?_) | refine GL.box1 (fun g => ?_) | refine GL.alloc1 rfl (fun g => ?_) | refine GL.allocA (fun g => ?_) | refine GL.no ?_) | ((with_reducible show G _ _ _ (Item.code (Code.cond _ _ _) :: _) _ _ _); first | refine G.condT rfl ?_ | refine G.condF rfl ?_ | refine G.condYes rfl (by omega) ?_ | refine G.condNo rfl (by omega) ?_) | (with_reducible refine G.exit rfl ?_))
      refine G.sub .nil ?_
      refine G.ret1 ok rfl ?_
      exact ⟨by rw [decide_eq_false (fun h => h1 h.2.1)], rfl, rfl⟩
  · repeat (first | (with_reducible first | refine GL.nil ?_ | refine G.region ?_ | refine G.seq ?_ | refine G.skip ?_ | refine G.block ?_ | refine G.inBlock ?_ | refine G.label ?_) | ((with_reducible show GL _ _ _ _ (_ :: _) _ _ _ _); first | refine GL.p ?_ | refine GL.pK ?_ | refine GL.store ?_ | refine GL.storeN ?_ | refine GL.boxA (fun g => ?_) | refine GL.box1 (fun g => ?_) | refine GL.alloc1 rfl (fun g => ?_) | refine GL.allocA (fun g => ?_) | refine GL.no ?_) | ((with_reducible show G _ _ _ (Item.code (Code.cond _ _ _) :: _) _ _ _); first | refine G.condT rfl ?_ | refine G.condF rfl ?_ | refine G.condYes rfl (by omega) ?_ | refine G.condNo rfl (by omega) ?_) | (with_reducible refine G.exit rfl ?_))
    refine G.sub .nil ?_
    refine G.ret1 ok rfl ?_
    exact ⟨by rw [decide_eq_false (fun h => h0 h.1)], rfl, rfl⟩
set_option maxHeartbeats 4000000 in
theorem tsameR_calls (t u : TabD) (s : Store) (ht : t.laid s) (hu : u.laid s) : Fn Try.prog 17 #[t.v, u.v] s [] (fun e s' h' => e = .returned (.bool (decide (t.same u))) ∧ s' = s ∧ h' = []) := by
  have hl := ht.ilen
  have hl' := hu.ilen
  have hcap := ht.cap
  have hmax := ht.max
  refine Fn.intro (args := [t.v, u.v]) Try.func17 rfl Try.ntmps17 (Nat.le_of_ble_eq_true rfl) (fun C ok hh => ?_)
  by_cases h0 : t.st = u.st
  · by_cases h1 : t.en = u.en
    · by_cases h2 : (t.h.n : Int) = u.h.n
      · repeat (first | (with_reducible first | refine GL.nil ?_ | refine G.region ?_ | refine G.seq ?_ | refine G.skip ?_ | refine G.block ?_ | refine G.inBlock ?_ | refine G.label ?_) | ((with_reducible show GL _ _ _ _ (_ :: _) _ _ _ _); first | refine GL.p ?_ | refine GL.pK ?_ | refine GL.store ?_ | refine GL.storeN ?_ | refine GL.boxA (fun g => ?_) | refine GL.box1 (fun g => ?_) | refine GL.alloc1 rfl (fun g => ?_) | refine GL.allocA (fun g => ?_) | refine GL.no ?_) | ((with_reducible show G _ _ _ (Item.code (Code.cond _ _ _) :: _) _ _ _); first | refine G.condT rfl ?_ | refine G.condF rfl ?_ | refine G.condYes rfl (by omega) ?_ | refine G.condNo rfl (by omega) ?_) | (with_reducible refine G.exit rfl ?_))
        rename_i g2
        refine G.loop (fun i : Nat => [(2, .pointer (some ⟨g2, 0, none⟩)), (3, .pointer (some ⟨g, 0, none⟩)), (5, .int .i64 i)]) (fun _ => [tabE g2 t, tabE g u]) (fun i s' => s' = s ∧ i ≤ t.h.n ∧ ∀ j, j < i → nth t.l j = nth u.l j) (fun i => t.h.n - i) 0 (by ((repeat' (first | exact trivial | refine And.intro ?_ ?_)); all_goals (first | (refine congrArg some (congrArg (Value.int _) ?_); (try dsimp only); omega) | exact rfl))) (by (first | exact Split.refl _ | ((try dsimp only); repeat (first | exact Split.nil | (apply Split.cons; (repeat (first | exact Pick.head | apply Pick.tail))))))) ⟨rfl, Nat.zero_le _, fun j h => by omega⟩ ?_
        rintro i s' ⟨rfl, hi, ha⟩ ih
        try dsimp only
        by_cases hlt : i < t.h.n
        · have hat := icells_at t.l i (by omega)
          have hat' := icells_at u.l i (by omega)
          by_cases h3 : nth t.l i ≠ nth u.l i
          · repeat (first | (with_reducible first | refine GL.nil ?_ | refine G.region ?_ | refine G.seq ?_ | refine G.skip ?_ | refine G.block ?_ | refine G.inBlock ?_ | refine G.label ?_) | ((with_reducible show GL _ _ _ _ (_ :: _) _ _ _ _); first | refine GL.p ?_ | refine GL.pK ?_ | refine GL.store ?_ | refine GL.storeN ?_ | refine GL.boxA (fun g => ?_) | refine GL.box1 (fun g => ?_) | refine GL.alloc1 rfl (fun g => ?_) | refine GL.allocA (fun g => ?_) | refine GL.no ?_) | ((with_reducible show G _ _ _ (Item.code (Code.cond _ _ _) :: _) _ _ _); first | refine G.condT rfl ?_ | refine G.condF rfl ?_ | refine G.condYes rfl (by omega) ?_ | refine G.condNo rfl (by omega) ?_) | (with_reducible refine G.exit rfl ?_))
            refine G.draw0 (m := 11) (lay 11 0) follows_mixed ?_
            (first | refine GD.p 0 (lay 11 1) ?_ | refine GD.no 0 (lay 11 1) ?_); (first | refine GD.p 1 (lay 11 3) ?_ | refine GD.no 1 (lay 11 3) ?_); (first | refine GD.p 2 (lay 11 7) ?_ | refine GD.no 2 (lay 11 7) ?_); (first | refine GD.p 3 (lay 11 15) ?_ | refine GD.no 3 (lay 11 15) ?_); (first | refine GD.p 4 (lay 11 31) ?_ | refine GD.no 4 (lay 11 31) ?_); (first | refine GD.p 5 (lay 11 63) ?_ | refine GD.no 5 (lay 11 63) ?_); (first | refine GD.p 6 (lay 11 127) ?_ | refine GD.no 6 (lay 11 127) ?_); (first | refine GD.p 7 (lay 11 255) ?_ | refine GD.no 7 (lay 11 255) ?_); (first | refine GD.p 8 (lay 11 511) ?_ | refine GD.no 8 (lay 11 511) ?_); (first | refine GD.p 9 (lay 11 1023) ?_ | refine GD.no 9 (lay 11 1023) ?_); (first | refine GD.p 10 (lay 11 2047) ?_ | refine GD.no 10 (lay 11 2047) ?_)
            refine GD.nil ?_
            repeat (first | (with_reducible first | refine GL.nil ?_ | refine G.region ?_ | refine G.seq ?_ | refine G.skip ?_ | refine G.block ?_ | refine G.inBlock ?_ | refine G.label ?_) | ((with_reducible show GL _ _ _ _ (_ :: _) _ _ _ _); first | refine GL.p ?_ | refine GL.pK ?_ | refine GL.store ?_ | refine GL.storeN ?_ | refine GL.boxA (fun g => ?_) | refine GL.box1 (fun g => ?_) | refine GL.alloc1 rfl (fun g => ?_) | refine GL.allocA (fun g => ?_) | refine GL.no ?_) | ((with_reducible show G _ _ _ (Item.code (Code.cond _ _ _) :: _) _ _ _); first | refine G.condT rfl ?_ | refine G.condF rfl ?_ | refine G.condYes rfl (by omega) ?_ | refine G.condNo rfl (by omega) ?_) | (with_reducible refine G.exit rfl ?_))
            refine G.sub .nil ?_
            refine G.ret1 ok rfl ?_
            refine ⟨?_, rfl, rfl⟩
            rw [decide_eq_false]
            rintro ⟨-, -, he⟩
            rw [he] at h3
            exact h3 rfl
          · repeat (first | (with_reducible first | refine GL.nil ?_ | refine G.region ?_ | refine G.seq ?_ | refine G.skip ?_ | refine G.block ?_ | refine G.inBlock ?_ | refine G.label ?_) | ((with_reducible show GL _ _ _ _ (_ :: _) _ _ _ _); first | refine GL.p ?_ | refine GL.pK ?_ | refine GL.store ?_ | refine GL.storeN ?_ | refine GL.boxA (fun g => ?_) | refine GL.box1 (fun g => ?_) | refine GL.alloc1 rfl (fun g => ?_) | refine GL.allocA (fun g => ?_) | refine GL.no ?_) | ((with_reducible show G _ _ _ (Item.code (Code.cond _ _ _) :: _) _ _ _); first | refine G.condT rfl ?_ | refine G.condF rfl ?_ | refine G.condYes rfl (by omega) ?_ | refine G.condNo rfl (by omega) ?_) | (with_reducible refine G.exit rfl ?_))
            refine G.draw0 (m := 11) (lay 11 0) follows_mixed ?_
            (first | refine GD.p 0 (lay 11 1) ?_ | refine GD.no 0 (lay 11 1) ?_); (first | refine GD.p 1 (lay 11 3) ?_ | refine GD.no 1 (lay 11 3) ?_); (first | refine GD.p 2 (lay 11 7) ?_ | refine GD.no 2 (lay 11 7) ?_); (first | refine GD.p 3 (lay 11 15) ?_ | refine GD.no 3 (lay 11 15) ?_); (first | refine GD.p 4 (lay 11 31) ?_ | refine GD.no 4 (lay 11 31) ?_); (first | refine GD.p 5 (lay 11 63) ?_ | refine GD.no 5 (lay 11 63) ?_); (first | refine GD.p 6 (lay 11 127) ?_ | refine GD.no 6 (lay 11 127) ?_); (first | refine GD.p 7 (lay 11 255) ?_ | refine GD.no 7 (lay 11 255) ?_); (first | refine GD.p 8 (lay 11 511) ?_ | refine GD.no 8 (lay 11 511) ?_); (first | refine GD.p 9 (lay 11 1023) ?_ | refine GD.no 9 (lay 11 1023) ?_); (first | refine GD.p 10 (lay 11 2047) ?_ | refine GD.no 10 (lay 11 2047) ?_)
            refine GD.nil ?_
            repeat (first | (with_reducible first | refine GL.nil ?_ | refine G.region ?_ | refine G.seq ?_ | refine G.skip ?_ | refine G.block ?_ | refine G.inBlock ?_ | refine G.label ?_) | ((with_reducible show GL _ _ _ _ (_ :: _) _ _ _ _); first | refine GL.p ?_ | refine GL.pK ?_ | refine GL.store ?_ | refine GL.storeN ?_ | refine GL.boxA (fun g => ?_) | refine GL.box1 (fun g => ?_) | refine GL.alloc1 rfl (fun g => ?_) | refine GL.allocA (fun g => ?_) | refine GL.no ?_) | ((with_reducible show G _ _ _ (Item.code (Code.cond _ _ _) :: _) _ _ _); first | refine G.condT rfl ?_ | refine G.condF rfl ?_ | refine G.condYes rfl (by omega) ?_ | refine G.condNo rfl (by omega) ?_) | (with_reducible refine G.exit rfl ?_))
            refine ih (i + 1) _ _ _ _ (by ((repeat' (first | exact trivial | refine And.intro ?_ ?_)); all_goals (first | (refine congrArg some (congrArg (Value.int _) ?_); (try dsimp only); omega) | exact rfl))) (by (first | exact Split.refl _ | ((try dsimp only); repeat (first | exact Split.nil | (apply Split.cons; (repeat (first | exact Pick.head | apply Pick.tail))))))) ⟨rfl, by omega, fun j hj => ?_⟩ (by omega)
            rcases Nat.lt_or_ge j i with h | h
            · exact ha j h
            · obtain rfl : j = i := by omega
              omega
        · obtain rfl : i = t.h.n := by omega
          repeat (first | (with_reducible first | refine GL.nil ?_ | refine G.region ?_ | refine G.seq ?_ | refine G.skip ?_ | refine G.block ?_ | refine G.inBlock ?_ | refine G.label ?_) | ((with_reducible show GL _ _ _ _ (_ :: _) _ _ _ _); first | refine GL.p ?_ | refine GL.pK ?_ | refine GL.store ?_ | refine GL.storeN ?_ | refine GL.boxA (fun g => ?_) | refine GL.box1 (fun g => ?_) | refine GL.alloc1 rfl (fun g => ?_) | refine GL.allocA (fun g => ?_) | refine GL.no ?_) | ((with_reducible show G _ _ _ (Item.code (Code.cond _ _ _) :: _) _ _ _); first | refine G.condT rfl ?_ | refine G.condF rfl ?_ | refine G.condYes rfl (by omega) ?_ | refine G.condNo rfl (by omega) ?_) | (with_reducible refine G.exit rfl ?_))
          refine G.sub .nil ?_
          refine G.ret1 ok rfl ?_
          refine ⟨?_, rfl, rfl⟩
          rw [decide_eq_true]
          exact ⟨h0, h1, nth_ext (by omega) (fun j hj => ha j (by omega))⟩
      · repeat (first | (with_reducible first | refine GL.nil ?_ | refine G.region ?_ | refine G.seq ?_ | refine G.skip ?_ | refine G.block ?_ | refine G.inBlock ?_ | refine G.label ?_) | ((with_reducible show GL _ _ _ _ (_ :: _) _ _ _ _); first | refine GL.p ?_ | refine GL.pK ?_ | refine GL.store ?_ | refine GL.storeN ?_ | refine GL.boxA (fun g => ?_) | refine GL.box1 (fun g => ?_) | refine GL.alloc1 rfl (fun g => ?_) | refine GL.allocA (fun g => ?_) | refine GL.no ?_) | ((with_reducible show G _ _ _ (Item.code (Code.cond _ _ _) :: _) _ _ _); first | refine G.condT rfl ?_ | refine G.condF rfl ?_ | refine G.condYes rfl (by omega) ?_ | refine G.condNo rfl (by omega) ?_) | (with_reducible refine G.exit rfl ?_))
        refine G.sub .nil ?_
        refine G.ret1 ok rfl ?_
        refine ⟨?_, rfl, rfl⟩
        rw [decide_eq_false]
        rintro ⟨-, -, he⟩
        have := congrArg List.length he
        omega
    · repeat (first | (with_reducible first | refine GL.nil ?_ | refine G.region ?_ | refine G.seq ?_ | refine G.skip ?_ | refine G.block ?_ | refine G.inBlock ?_ | refine G.label ?_) | ((with_reducible show GL _ _ _ _ (_ :: _) _ _ _ _); first | refine GL.p ?_ | refine GL.pK ?_ | refine GL.store ?_ | refine GL.storeN ?_ | refine GL.boxA (fun g => ?_) | refine GL.box1 (fun g => ?_) | refine GL.alloc1 rfl (fun g => ?_) | refine GL.allocA (fun g => ?_) | refine GL.no ?_) | ((with_reducible show G _ _ _ (Item.code (Code.cond _ _ _) :: _) _ _ _); first | refine G.condT rfl ?_ | refine G.condF rfl ?_ | refine G.condYes rfl (by omega) ?_ | refine G.condNo rfl (by omega) ?_) | (with_reducible refine G.exit rfl ?_))
      refine G.sub .nil ?_
      refine G.ret1 ok rfl ?_
      exact ⟨by rw [decide_eq_false (fun h => h1 h.2.1)], rfl, rfl⟩
  · repeat (first | (with_reducible first | refine GL.nil ?_ | refine G.region ?_ | refine G.seq ?_ | refine G.skip ?_ | refine G.block ?_ | refine G.inBlock ?_ | refine G.label ?_) | ((with_reducible show GL _ _ _ _ (_ :: _) _ _ _ _); first | refine GL.p ?_ | refine GL.pK ?_ | refine GL.store ?_ | refine GL.storeN ?_ | refine GL.boxA (fun g => ?_) | refine GL.box1 (fun g => ?_) | refine GL.alloc1 rfl (fun g => ?_) | refine GL.allocA (fun g => ?_) | refine GL.no ?_) | ((with_reducible show G _ _ _ (Item.code (Code.cond _ _ _) :: _) _ _ _); first | refine G.condT rfl ?_ | refine G.condF rfl ?_ | refine G.condYes rfl (by omega) ?_ | refine G.condNo rfl (by omega) ?_) | (with_reducible refine G.exit rfl ?_))
    refine G.sub .nil ?_
    refine G.ret1 ok rfl ?_
    exact ⟨by rw [decide_eq_false (fun h => h0 h.1)], rfl, rfl⟩
end Go.Proofs.Ytnndjobhcncanaa
