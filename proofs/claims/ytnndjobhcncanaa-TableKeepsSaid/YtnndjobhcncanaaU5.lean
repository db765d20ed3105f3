/- The program's check of a part. No statement of the seat is proved here. -/
import Derived.Test.YtnndjobhcncanaaU4
import Derived.Test.YtnndjobhcncanaaM2
namespace Go.Proofs.Ytnndjobhcncanaa
open Go.RowKit
theorem offset_calls {A : Option Addr} {n c : Nat} {cs : List Value} (k : Nat) (v : Int) (s : Store) (hs : Sl s A n c 5 cs) (hk : cs[k * 5 + 0]? = some (.int .i64 v)) : Fn Try.prog 54 #[.pointer (some ((A.getD default).add (k * 5)))] s [] (fun e s' h' => e = .returned (.int .i64 v) ∧ s' = s ∧ h' = []) := by
  refine Fn.intro (args := [.pointer (some ((A.getD default).add (k * 5)))]) Try.func54 rfl Try.ntmps54 (Nat.le_of_ble_eq_true rfl) (fun C ok hh => ?_)
  repeat (first | (with_reducible first | refine GL.nil ?_ | refine G.region ?_ | refine G.seq ?_ | refine G.skip ?_ | refine G.block ?_ | refine G.inBlock ?_ | refine G.label ?_) | ((with_reducible show GL _ _ _ _ (_ :: _) _ _ _ _); first | refine GL.p ?_ | refine GL.pK ?_ | refine GL.store ?_ | refine GL.storeN ?_ | refine GL.boxA (fun g => ?_) | refine GL.box1 (fun g => ?_) | refine GL.alloc1 rfl (fun g => ?_) | refine GL.allocA (fun g => ?_) | refine GL.no ?_) | ((with_reducible show G _ _ _ (Item.code (Code.cond _ _ _) :: _) _ _ _); first | refine G.condT rfl ?_ | refine G.condF rfl ?_ | refine G.condYes rfl (by omega) ?_ | refine G.condNo rfl (by omega) ?_) | (with_reducible refine G.exit rfl ?_))
  refine G.ret1 ok rfl ?_
  exact ⟨rfl, rfl, rfl⟩
theorem pid_calls {A : Option Addr} {n c : Nat} {cs : List Value} (k : Nat) (v : Int) (s : Store) (hs : Sl s A n c 3 cs) (hk : cs[k * 3 + 0]? = some (.int .i64 v)) : Fn Try.prog 56 #[.pointer (some ((A.getD default).add (k * 3)))] s [] (fun e s' h' => e = .returned (.int .i64 v) ∧ s' = s ∧ h' = []) := by
  refine Fn.intro (args := [.pointer (some ((A.getD default).add (k * 3)))]) Try.func56 rfl Try.ntmps56 (Nat.le_of_ble_eq_true rfl) (fun C ok hh => ?_)
  repeat (first | (with_reducible first | refine GL.nil ?_ | refine G.region ?_ | refine G.seq ?_ | refine G.skip ?_ | refine G.block ?_ | refine G.inBlock ?_ | refine G.label ?_) | ((with_reducible show GL _ _ _ _ (_ :: _) _ _ _ _); first | refine GL.p ?_ | refine GL.pK ?_ | refine GL.store ?_ | refine GL.storeN ?_ | refine GL.boxA (fun g => ?_) | refine GL.box1 (fun g => ?_) | refine GL.alloc1 rfl (fun g => ?_) | refine GL.allocA (fun g => ?_) | refine GL.no ?_) | ((with_reducible show G _ _ _ (Item.code (Code.cond _ _ _) :: _) _ _ _); first | refine G.condT rfl ?_ | refine G.condF rfl ?_ | refine G.condYes rfl (by omega) ?_ | refine G.condNo rfl (by omega) ?_) | (with_reducible refine G.exit rfl ?_))
  refine G.ret1 ok rfl ?_
  exact ⟨rfl, rfl, rfl⟩
set_option maxHeartbeats 4000000 in
theorem risesRow_calls (p : PartD) (s : Store) (hp : p.laid s) : Fn Try.prog 53 #[.slice p.hr.A p.hr.n p.hr.c, .func (.func 54) #[] #[]] s [] (fun e s' h' => ∃ b, e = .returned (.bool b) ∧ (b = true ↔ ∀ j, j + 1 < p.hr.n → p.of j < p.of (j + 1)) ∧ s' = s ∧ h' = []) := by
  have hR := hp.rows
  have hcap := hR.cap
  have hmax := hR.max
  refine Fn.intro (args := [.slice p.hr.A p.hr.n p.hr.c, .func (.func 54) #[] #[]]) Try.func53 rfl Try.ntmps53 (Nat.le_of_ble_eq_true rfl) (fun C ok hh => ?_)
  repeat (first | (with_reducible first | refine GL.nil ?_ | refine G.region ?_ | refine G.seq ?_ | refine G.skip ?_ | refine G.block ?_ | refine G.inBlock ?_ | refine G.label ?_) | ((with_reducible show GL _ _ _ _ (_ :: _) _ _ _ _); first | refine GL.p ?_ | refine GL.pK ?_ | refine GL.store ?_ | refine GL.storeN ?_ | refine GL.boxA (fun g => ?_) | refine GL.box1 (fun g => ?_) | refine GL.alloc1 rfl (fun g => ?_) | refine GL.allocA (fun g => ?_) | refine GL.no ?_) | ((with_reducible show G _ _ _ (Item.code (Code.cond _ _ _) :: _) _ _ _); first | refine G.condT rfl ?_ | refine G.condF rfl ?_ | refine G.condYes rfl (by omega) ?_ | refine G.condNo rfl (by omega) ?_) | (with_reducible refine G.exit rfl ?_))
  refine G.loop (fun i : Nat => [(0, .slice p.hr.A p.hr.n p.hr.c), (1, .func (.func 54) #[] #[]), (5, .int .i64 i)]) (fun _ => []) (fun i s' => s' = s ∧ 1 ≤ i ∧ ∀ j, j + 1 < i → j + 1 < p.hr.n → p.of j < p.of (j + 1)) (fun i => p.hr.n - i) 1 (by ((repeat' (first | exact trivial | refine And.intro ?_ ?_)); all_goals (first | (refine congrArg some (congrArg (Value.int _) ?_); (try dsimp only); omega) | exact rfl))) .nil ⟨rfl, Nat.le_refl _, fun j h => by omega⟩ ?_
  rintro i s' ⟨rfl, h1, ha⟩ ih
  try dsimp only
  by_cases hlt : i < p.hr.n
  · have hat := PartD.row_at hp (i : Int) i (Int.toNat_natCast i) hlt
    have hat' := PartD.row_at hp ((i : Int) - 1) (i - 1) (by omega) (by omega)
    repeat (first | (with_reducible first | refine GL.nil ?_ | refine G.region ?_ | refine G.seq ?_ | refine G.skip ?_ | refine G.block ?_ | refine G.inBlock ?_ | refine G.label ?_) | ((with_reducible show GL _ _ _ _ (_ :: _) _ _ _ _); first | refine GL.p ?_ | refine GL.pK ?_ | refine GL.store ?_ | refine GL.storeN ?_ | refine GL.boxA (fun g => ?_) | refine GL.box1 (fun g => ?_) | refine GL.alloc1 rfl (fun g => ?_) | refine GL.allocA (fun g => ?_) | refine GL.no ?_) | ((with_reducible show G _ _ _ (Item.code (Code.cond _ _ _) :: _) _ _ _); first | refine G.condT rfl ?_ | refine G.condF rfl ?_ | refine G.condYes rfl (by omega) ?_ | refine G.condNo rfl (by omega) ?_) | (with_reducible refine G.exit rfl ?_))
    refine G.draw0 (m := 12) (lay 12 0) follows_mixed ?_
    (first | refine GD.p 0 (lay 12 1) ?_ | refine GD.no 0 (lay 12 1) ?_ | refine GD.pK 0 (lay 12 1) ?_); (first | refine GD.p 1 (lay 12 3) ?_ | refine GD.no 1 (lay 12 3) ?_ | refine GD.pK 1 (lay 12 3) ?_); (first | refine GD.p 2 (lay 12 7) ?_ | refine GD.no 2 (lay 12 7) ?_ | refine GD.pK 2 (lay 12 7) ?_); (first | refine GD.p 3 (lay 12 15) ?_ | refine GD.no 3 (lay 12 15) ?_ | refine GD.pK 3 (lay 12 15) ?_); (first | refine GD.p 5 (lay 12 47) ?_ | refine GD.no 5 (lay 12 47) ?_ | refine GD.pK 5 (lay 12 47) ?_); (first | refine GD.p 6 (lay 12 111) ?_ | refine GD.no 6 (lay 12 111) ?_ | refine GD.pK 6 (lay 12 111) ?_); (first | refine GD.p 7 (lay 12 239) ?_ | refine GD.no 7 (lay 12 239) ?_ | refine GD.pK 7 (lay 12 239) ?_); (first | refine GD.p 8 (lay 12 495) ?_ | refine GD.no 8 (lay 12 495) ?_ | refine GD.pK 8 (lay 12 495) ?_); (first | refine GD.p 9 (lay 12 1007) ?_ | refine GD.no 9 (lay 12 1007) ?_ | refine GD.pK 9 (lay 12 1007) ?_)
    refine GD.callV 4 (lay 12 1023) rfl rfl rfl rfl (offset_calls _ _ _ hR hat) .nil (fun v s1 h1' hq hle => ?_) (fun v s1 h1' hq => ⟨_, .nil⟩)
    obtain ⟨e1, h3, rfl⟩ := hq
    subst s1
    cases e1
    rw [List.nil_append]
    refine GD.callV 10 (lay 12 2047) rfl rfl rfl rfl (offset_calls _ _ _ hR hat') .nil (fun v s1 h1' hq hle => ?_) (fun v s1 h1' hq => ⟨_, .nil⟩)
    obtain ⟨e1, h3, rfl⟩ := hq
    subst s1
    cases e1
    rw [List.nil_append]
    by_cases h2 : p.of i ≤ p.of (i - 1)
    · (first | refine GD.p 11 (lay 12 4095) ?_ | refine GD.no 11 (lay 12 4095) ?_ | refine GD.pK 11 (lay 12 4095) ?_)
      refine GD.nil ?_
      repeat (first | (with_reducible first | refine GL.nil ?_ | refine G.region ?_ | refine G.seq ?_ | refine G.skip ?_ | refine G.block ?_ | refine G.inBlock ?_ | refine G.label ?_) | ((with_reducible show GL _ _ _ _ (_ :: _) _ _ _ _); first | refine GL.p ?_ | refine GL.pK ?_ | refine GL.store ?_ | refine GL.storeN ?_ | refine GL.boxA (fun g => ?_) | refine GL.box1 (fun g => ?_) | refine GL.alloc1 rfl (fun g => ?_) | refine GL.allocA (fun g => ?_) | refine GL.no ?_) | ((with_reducible show G _ _ _ (Item.code (Code.cond _ _ _) :: _) _ _ _); first | refine G.condT rfl ?_ | refine G.condF rfl ?_ | refine G.condYes rfl (by omega) ?_ | refine G.condNo rfl (by omega) ?_) | (with_reducible refine G.exit rfl ?_))
      refine G.ret1 ok rfl ?_
      exact ⟨false, rfl, ⟨fun h => by simp at h, fun h => by have := h (i - 1) (by omega); rw [show i - 1 + 1 = i from by omega] at this; omega⟩, rfl, rfl⟩
    · (first | refine GD.p 11 (lay 12 4095) ?_ | refine GD.no 11 (lay 12 4095) ?_ | refine GD.pK 11 (lay 12 4095) ?_)
      refine GD.nil ?_
      repeat (first | (with_reducible first | refine GL.nil ?_ | refine G.region ?_ | refine G.seq ?_ | refine G.skip ?_ | refine G.block ?_ | refine G.inBlock ?_ | refine G.label ?_) | ((with_reducible show GL _ _ _ _ (_ :: _) _ _ _ _); first | refine GL.p ?_ | refine GL.pK ?_ | refine GL.store ?_ | refine GL.storeN ?_ | refine GL.boxA (fun g => ?_) | refine GL.box1 (fun g => ?_) | refine GL.alloc1 rfl (fun g => ?_) | refine GL.allocA (fun g => ?_) | refine GL.no ?_) | ((with_reducible show G _ _ _ (Item.code (Code.cond _ _ _) :: _) _ _ _); first | refine G.condT rfl ?_ | refine G.condF rfl ?_ | refine G.condYes rfl (by omega) ?_ | refine G.condNo rfl (by omega) ?_) | (with_reducible refine G.exit rfl ?_))
      refine ih (i + 1) _ _ _ _ (by ((repeat' (first | exact trivial | refine And.intro ?_ ?_)); all_goals (first | (refine congrArg some (congrArg (Value.int _) ?_); (try dsimp only); omega) | exact rfl))) .nil ⟨rfl, by omega, fun j hj hj2 => ?_⟩ (by omega)
      rcases Nat.lt_or_ge (j + 1) i with h | h
      · exact ha j h hj2
      · obtain rfl : i = j + 1 := by omega
        rw [show j + 1 - 1 = j from by omega] at h2
        omega
  · repeat (first | (with_reducible first | refine GL.nil ?_ | refine G.region ?_ | refine G.seq ?_ | refine G.skip ?_ | refine G.block ?_ | refine G.inBlock ?_ | refine G.label ?_) | ((with_reducible show GL _ _ _ _ (_ :: _) _ _ _ _); first | refine GL.p ?_ | refine GL.pK ?_ | refine GL.store ?_ | refine GL.storeN ?_ | refine GL.boxA (fun g => ?_) | refine GL.box1 (fun g => ?_) | refine GL.alloc1 rfl (fun g => ?_) | refine GL.allocA (fun g => ?_) | refine GL.no ?_) | ((with_reducible show G _ _ _ (Item.code (Code.cond _ _ _) :: _) _ _ _); first | refine G.condT rfl ?_ | refine G.condF rfl ?_ | refine G.condYes rfl (by omega) ?_ | refine G.condNo rfl (by omega) ?_) | (with_reducible refine G.exit rfl ?_))
    refine G.ret1 ok rfl ?_
    exact ⟨true, rfl, ⟨fun _ j hj => ha j (by omega) hj, fun _ => rfl⟩, rfl, rfl⟩
set_option maxHeartbeats 4000000 in
theorem risesOpen_calls (p : PartD) (s : Store) (hp : p.laid s) : Fn Try.prog 55 #[.slice p.ho.A p.ho.n p.ho.c, .func (.func 56) #[] #[]] s [] (fun e s' h' => ∃ b, e = .returned (.bool b) ∧ (b = true ↔ ∀ j, j + 1 < p.ho.n → p.op j < p.op (j + 1)) ∧ s' = s ∧ h' = []) := by
  have hR := hp.opens
  have hcap := hR.cap
  have hmax := hR.max
  refine Fn.intro (args := [.slice p.ho.A p.ho.n p.ho.c, .func (.func 56) #[] #[]]) Try.func55 rfl Try.ntmps55 (Nat.le_of_ble_eq_true rfl) (fun C ok hh => ?_)
  repeat (first | (with_reducible first | refine GL.nil ?_ | refine G.region ?_ | refine G.seq ?_ | refine G.skip ?_ | refine G.block ?_ | refine G.inBlock ?_ | refine G.label ?_) | ((with_reducible show GL _ _ _ _ (_ :: _) _ _ _ _); first | refine GL.p ?_ | refine GL.pK ?_ | refine GL.store ?_ | refine GL.storeN ?_ | refine GL.boxA (fun g => ?_) | refine GL.box1 (fun g => ?_) | refine GL.alloc1 rfl (fun g => ?_) | refine GL.allocA (fun g => ?_) | refine GL.no ?_) | ((with_reducible show G _ _ _ (Item.code (Code.cond _ _ _) :: _) _ _ _); first | refine G.condT rfl ?_ | refine G.condF rfl ?_ | refine G.condYes rfl (by omega) ?_ | refine G.condNo rfl (by omega) ?_) | (with_reducible refine G.exit rfl ?_))
  refine G.loop (fun i : Nat => [(0, .slice p.ho.A p.ho.n p.ho.c), (1, .func (.func 56) #[] #[]), (5, .int .i64 i)]) (fun _ => []) (fun i s' => s' = s ∧ 1 ≤ i ∧ ∀ j, j + 1 < i → j + 1 < p.ho.n → p.op j < p.op (j + 1)) (fun i => p.ho.n - i) 1 (by ((repeat' (first | exact trivial | refine And.intro ?_ ?_)); all_goals (first | (refine congrArg some (congrArg (Value.int _) ?_); (try dsimp only); omega) | exact rfl))) .nil ⟨rfl, Nat.le_refl _, fun j h => by omega⟩ ?_
  rintro i s' ⟨rfl, h1, ha⟩ ih
  try dsimp only
  by_cases hlt : i < p.ho.n
  · obtain ⟨o, -, ho1, -, hat, -, -⟩ := PartD.open_at hp (i : Int) i (Int.toNat_natCast i) hlt
    obtain ⟨o', -, hq1, -, hat', -, -⟩ := PartD.open_at hp ((i : Int) - 1) (i - 1) (by omega) (by omega)
    repeat (first | (with_reducible first | refine GL.nil ?_ | refine G.region ?_ | refine G.seq ?_ | refine G.skip ?_ | refine G.block ?_ | refine G.inBlock ?_ | refine G.label ?_) | ((with_reducible show GL _ _ _ _ (_ :: _) _ _ _ _); first | refine GL.p ?_ | refine GL.pK ?_ | refine GL.store ?_ | refine GL.storeN ?_ | refine GL.boxA (fun g => ?_) | refine GL.box1 (fun g => ?_) | refine GL.alloc1 rfl (fun g => ?_) | refine GL.allocA (fun g => ?_) | refine GL.no ?_) | ((with_reducible show G _ _ _ (Item.code (Code.cond _ _ _) :: _) _ _ _); first | refine G.condT rfl ?_ | refine G.condF rfl ?_ | refine G.condYes rfl (by omega) ?_ | refine G.condNo rfl (by omega) ?_) | (with_reducible refine G.exit rfl ?_))
    refine G.draw0 (m := 12) (lay 12 0) follows_mixed ?_
    (first | refine GD.p 0 (lay 12 1) ?_ | refine GD.no 0 (lay 12 1) ?_ | refine GD.pK 0 (lay 12 1) ?_); (first | refine GD.p 1 (lay 12 3) ?_ | refine GD.no 1 (lay 12 3) ?_ | refine GD.pK 1 (lay 12 3) ?_); (first | refine GD.p 2 (lay 12 7) ?_ | refine GD.no 2 (lay 12 7) ?_ | refine GD.pK 2 (lay 12 7) ?_); (first | refine GD.p 3 (lay 12 15) ?_ | refine GD.no 3 (lay 12 15) ?_ | refine GD.pK 3 (lay 12 15) ?_); (first | refine GD.p 5 (lay 12 47) ?_ | refine GD.no 5 (lay 12 47) ?_ | refine GD.pK 5 (lay 12 47) ?_); (first | refine GD.p 6 (lay 12 111) ?_ | refine GD.no 6 (lay 12 111) ?_ | refine GD.pK 6 (lay 12 111) ?_); (first | refine GD.p 7 (lay 12 239) ?_ | refine GD.no 7 (lay 12 239) ?_ | refine GD.pK 7 (lay 12 239) ?_); (first | refine GD.p 8 (lay 12 495) ?_ | refine GD.no 8 (lay 12 495) ?_ | refine GD.pK 8 (lay 12 495) ?_); (first | refine GD.p 9 (lay 12 1007) ?_ | refine GD.no 9 (lay 12 1007) ?_ | refine GD.pK 9 (lay 12 1007) ?_)
    refine GD.callV 4 (lay 12 1023) rfl rfl rfl rfl (pid_calls _ _ _ hR hat) .nil (fun v s1 h1' hq hle => ?_) (fun v s1 h1' hq => ⟨_, .nil⟩)
    obtain ⟨e1, h3, rfl⟩ := hq
    subst s1
    cases e1
    rw [List.nil_append]
    refine GD.callV 10 (lay 12 2047) rfl rfl rfl rfl (pid_calls _ _ _ hR hat') .nil (fun v s1 h1' hq hle => ?_) (fun v s1 h1' hq => ⟨_, .nil⟩)
    obtain ⟨e1, h3, rfl⟩ := hq
    subst s1
    cases e1
    rw [List.nil_append]
    by_cases h2 : o.pid ≤ o'.pid
    · (first | refine GD.p 11 (lay 12 4095) ?_ | refine GD.no 11 (lay 12 4095) ?_ | refine GD.pK 11 (lay 12 4095) ?_)
      refine GD.nil ?_
      repeat (first | (with_reducible first | refine GL.nil ?_ | refine G.region ?_ | refine G.seq ?_ | refine G.skip ?_ | refine G.block ?_ | refine G.inBlock ?_ | refine G.label ?_) | ((with_reducible show GL _ _ _ _ (_ :: _) _ _ _ _); first | refine GL.p ?_ | refine GL.pK ?_ | refine GL.store ?_ | refine GL.storeN ?_ | refine GL.boxA (fun g => ?_) | refine GL.box1 (fun g => ?_) | refine GL.alloc1 rfl (fun g => ?_) | refine GL.allocA (fun g => ?_) | refine GL.no ?_) | ((with_reducible show G _ _ _ (Item.code (Code.cond _ _ _) :: _) _ _ _); first | refine G.condT rfl ?_ | refine G.condF rfl ?_ | refine G.condYes rfl (by omega) ?_ | refine G.condNo rfl (by omega) ?_) | (with_reducible refine G.exit rfl ?_))
      refine G.ret1 ok rfl ?_
      exact ⟨false, rfl, ⟨fun h => by simp at h, fun h => by have := h (i - 1) (by omega); rw [show i - 1 + 1 = i from by omega] at this; omega⟩, rfl, rfl⟩
    · (first | refine GD.p 11 (lay 12 4095) ?_ | refine GD.no 11 (lay 12 4095) ?_ | refine GD.pK 11 (lay 12 4095) ?_)
      refine GD.nil ?_
      repeat (first | (with_reducible first | refine GL.nil ?_ | refine G.region ?_ | refine G.seq ?_ | refine G.skip ?_ | refine G.block ?_ | refine G.inBlock ?_ | refine G.label ?_) | ((with_reducible show GL _ _ _ _ (_ :: _) _ _ _ _); first | refine GL.p ?_ | refine GL.pK ?_ | refine GL.store ?_ | refine GL.storeN ?_ | refine GL.boxA (fun g => ?_) | refine GL.box1 (fun g => ?_) | refine GL.alloc1 rfl (fun g => ?_) | refine GL.allocA (fun g => ?_) | refine GL.no ?_) | ((with_reducible show G _ _ _ (Item.code (Code.cond _ _ _) :: _) _ _ _); first | refine G.condT rfl ?_ | refine G.condF rfl ?_ | refine G.condYes rfl (by omega) ?_ | refine G.condNo rfl (by omega) ?_) | (with_reducible refine G.exit rfl ?_))
      refine ih (i + 1) _ _ _ _ (by ((repeat' (first | exact trivial | refine And.intro ?_ ?_)); all_goals (first | (refine congrArg some (congrArg (Value.int _) ?_); (try dsimp only); omega) | exact rfl))) .nil ⟨rfl, by omega, fun j hj hj2 => ?_⟩ (by omega)
      rcases Nat.lt_or_ge (j + 1) i with h | h
      · exact ha j h hj2
      · obtain rfl : i = j + 1 := by omega
        rw [show j + 1 - 1 = j from by omega] at hq1
        omega
  · repeat (first | (with_reducible first | refine GL.nil ?_ | refine G.region ?_ | refine G.seq ?_ | refine G.skip ?_ | refine G.block ?_ | refine G.inBlock ?_ | refine G.label ?_) | ((with_reducible show GL _ _ _ _ (_ :: _) _ _ _ _); first | refine GL.p ?_ | refine GL.pK ?_ | refine GL.store ?_ | refine GL.storeN ?_ | refine GL.boxA (fun g => ?_) | refine GL.box1 (fun g => ?_) | refine GL.alloc1 rfl (fun g => ?_) | refine GL.allocA (fun g => ?_) | refine GL.no ?_) | ((with_reducible show G _ _ _ (Item.code (Code.cond _ _ _) :: _) _ _ _); first | refine G.condT rfl ?_ | refine G.condF rfl ?_ | refine G.condYes rfl (by omega) ?_ | refine G.condNo rfl (by omega) ?_) | (with_reducible refine G.exit rfl ?_))
    refine G.ret1 ok rfl ?_
    exact ⟨true, rfl, ⟨fun _ j hj => ha j (by omega) hj, fun _ => rfl⟩, rfl, rfl⟩
theorem check1_calls (o : OpenD) (s : Store) : Fn Try.prog 58 #[.agg [Value.int .i64 o.pid, .int .i64 o.epoch, .slice o.h.A o.h.n o.h.c].toArray] s [] (fun e s' h' => e = .returned (.bool (decide ((o.h.n : Int) = 0))) ∧ s' = s ∧ h' = []) := by
  refine Fn.intro (args := [.agg [Value.int .i64 o.pid, .int .i64 o.epoch, .slice o.h.A o.h.n o.h.c].toArray]) Try.func58 rfl Try.ntmps58 (Nat.le_of_ble_eq_true rfl) (fun C ok hh => ?_)
  by_cases h : (o.h.n : Int) = 0
  all_goals
    repeat (first | (with_reducible first | refine GL.nil ?_ | refine G.region ?_ | refine G.seq ?_ | refine G.skip ?_ | refine G.block ?_ | refine G.inBlock ?_ | refine G.label ?_) | ((with_reducible show GL _ _ _ _ (_ :: _) _ _ _ _); first | refine GL.p ?_ | refine GL.pK ?_ | refine GL.store ?_ | refine GL.storeN ?_ | refine GL.boxA (fun g => ?_) | refine GL.box1 (fun g => ?_) | refine GL.alloc1 rfl (fun g => ?_) | refine GL.allocA (fun g => ?_) | refine GL.no ?_) | ((with_reducible show G _ _ _ (Item.code (Code.cond _ _ _) :: _) _ _ _); first | refine G.condT rfl ?_ | refine G.condF rfl ?_ | refine G.condYes rfl (by omega) ?_ | refine G.condNo rfl (by omega) ?_) | (with_reducible refine G.exit rfl ?_))
    refine G.sub .nil ?_
    refine G.ret1 ok rfl ?_
    exact ⟨by simp only [h]; rfl, rfl, rfl⟩
set_option maxHeartbeats 4000000 in
theorem idxOpen_calls (p : PartD) (s : Store) (hp : p.laid s) : Fn Try.prog 65 #[.slice p.ho.A p.ho.n p.ho.c, .func (.func 58) #[] #[]] s [] (fun e s' h' => ∃ x : Int, e = .returned (.int .i64 x) ∧ (x < 0 ↔ ∀ j, j < p.ho.n → p.ob j ≠ 0) ∧ s' = s ∧ h' = []) := by
  have hR := hp.opens
  have hcap := hR.cap
  have hmax := hR.max
  refine Fn.intro (args := [.slice p.ho.A p.ho.n p.ho.c, .func (.func 58) #[] #[]]) Try.func65 rfl Try.ntmps65 (Nat.le_of_ble_eq_true rfl) (fun C ok hh => ?_)
  repeat (first | (with_reducible first | refine GL.nil ?_ | refine G.region ?_ | refine G.seq ?_ | refine G.skip ?_ | refine G.block ?_ | refine G.inBlock ?_ | refine G.label ?_) | ((with_reducible show GL _ _ _ _ (_ :: _) _ _ _ _); first | refine GL.p ?_ | refine GL.pK ?_ | refine GL.store ?_ | refine GL.storeN ?_ | refine GL.boxA (fun g => ?_) | refine GL.box1 (fun g => ?_) | refine GL.alloc1 rfl (fun g => ?_) | refine GL.allocA (fun g => ?_) | refine GL.no ?_) | ((with_reducible show G _ _ _ (Item.code (Code.cond _ _ _) :: _) _ _ _); first | refine G.condT rfl ?_ | refine G.condF rfl ?_ | refine G.condYes rfl (by omega) ?_ | refine G.condNo rfl (by omega) ?_) | (with_reducible refine G.exit rfl ?_))
  refine G.loop (fun i : Nat => [(0, .slice p.ho.A p.ho.n p.ho.c), (1, .func (.func 58) #[] #[]), (7, .int .i64 p.ho.n), (8, .int .i64 i)]) (fun _ => []) (fun i s' => s' = s ∧ i ≤ p.ho.n ∧ ∀ j, j < i → p.ob j ≠ 0) (fun i => p.ho.n - i) 0 (by ((repeat' (first | exact trivial | refine And.intro ?_ ?_)); all_goals (first | (refine congrArg some (congrArg (Value.int _) ?_); (try dsimp only); omega) | exact rfl))) .nil ⟨rfl, Nat.zero_le _, fun j h => by omega⟩ ?_
  rintro i s' ⟨rfl, h1, ha⟩ ih
  try dsimp only
  by_cases hlt : i < p.ho.n
  · obtain ⟨o, -, -, ho2, -, -, hat⟩ := PartD.open_at hp (i : Int) i (Int.toNat_natCast i) hlt
    repeat (first | (with_reducible first | refine GL.nil ?_ | refine G.region ?_ | refine G.seq ?_ | refine G.skip ?_ | refine G.block ?_ | refine G.inBlock ?_ | refine G.label ?_) | ((with_reducible show GL _ _ _ _ (_ :: _) _ _ _ _); first | refine GL.p ?_ | refine GL.pK ?_ | refine GL.store ?_ | refine GL.storeN ?_ | refine GL.boxA (fun g => ?_) | refine GL.box1 (fun g => ?_) | refine GL.alloc1 rfl (fun g => ?_) | refine GL.allocA (fun g => ?_) | refine GL.no ?_) | ((with_reducible show G _ _ _ (Item.code (Code.cond _ _ _) :: _) _ _ _); first | refine G.condT rfl ?_ | refine G.condF rfl ?_ | refine G.condYes rfl (by omega) ?_ | refine G.condNo rfl (by omega) ?_) | (with_reducible refine G.exit rfl ?_))
    refine GL.callV rfl rfl rfl (check1_calls o _) .nil fun v s1 h1' hq hle => ?_
    obtain ⟨e1, h3, rfl⟩ := hq
    subst s1
    cases e1
    rw [List.nil_append]
    by_cases h2 : (o.h.n : Int) = 0
    · repeat (first | (with_reducible first | refine GL.nil ?_ | refine G.region ?_ | refine G.seq ?_ | refine G.skip ?_ | refine G.block ?_ | refine G.inBlock ?_ | refine G.label ?_) | ((with_reducible show GL _ _ _ _ (_ :: _) _ _ _ _); first | refine GL.p ?_ | refine GL.pK ?_ | refine GL.store ?_ | refine GL.storeN ?_ | refine GL.boxA (fun g => ?_) | refine GL.box1 (fun g => ?_) | refine GL.alloc1 rfl (fun g => ?_) | refine GL.allocA (fun g => ?_) | refine GL.no ?_) | ((with_reducible show G _ _ _ (Item.code (Code.cond _ _ _) :: _) _ _ _); first | refine G.condT rfl ?_ | refine G.condF rfl ?_ | refine G.condYes rfl (by omega) ?_ | refine G.condNo rfl (by omega) ?_) | (with_reducible refine G.exit rfl ?_))
      refine G.ret1 ok rfl ?_
      exact ⟨_, rfl, ⟨fun h => by omega, fun h => absurd (by omega) (h i hlt)⟩, rfl, rfl⟩
    · repeat (first | (with_reducible first | refine GL.nil ?_ | refine G.region ?_ | refine G.seq ?_ | refine G.skip ?_ | refine G.block ?_ | refine G.inBlock ?_ | refine G.label ?_) | ((with_reducible show GL _ _ _ _ (_ :: _) _ _ _ _); first | refine GL.p ?_ | refine GL.pK ?_ | refine GL.store ?_ | refine GL.storeN ?_ | refine GL.boxA (fun g => ?_) | refine GL.box1 (fun g => ?_) | refine GL.alloc1 rfl (fun g => ?_) | refine GL.allocA (fun g => ?_) | refine GL.no ?_) | ((with_reducible show G _ _ _ (Item.code (Code.cond _ _ _) :: _) _ _ _); first | refine G.condT rfl ?_ | refine G.condF rfl ?_ | refine G.condYes rfl (by omega) ?_ | refine G.condNo rfl (by omega) ?_) | (with_reducible refine G.exit rfl ?_))
      refine ih (i + 1) _ _ _ _ (by ((repeat' (first | exact trivial | refine And.intro ?_ ?_)); all_goals (first | (refine congrArg some (congrArg (Value.int _) ?_); (try dsimp only); omega) | exact rfl))) .nil ⟨rfl, by omega, fun j hj => ?_⟩ (by omega)
      rcases Nat.lt_or_ge j i with h | h
      · exact ha j h
      · obtain rfl : j = i := by omega
        omega
  · obtain rfl : i = p.ho.n := by omega
    repeat (first | (with_reducible first | refine GL.nil ?_ | refine G.region ?_ | refine G.seq ?_ | refine G.skip ?_ | refine G.block ?_ | refine G.inBlock ?_ | refine G.label ?_) | ((with_reducible show GL _ _ _ _ (_ :: _) _ _ _ _); first | refine GL.p ?_ | refine GL.pK ?_ | refine GL.store ?_ | refine GL.storeN ?_ | refine GL.boxA (fun g => ?_) | refine GL.box1 (fun g => ?_) | refine GL.alloc1 rfl (fun g => ?_) | refine GL.allocA (fun g => ?_) | refine GL.no ?_) | ((with_reducible show G _ _ _ (Item.code (Code.cond _ _ _) :: _) _ _ _); first | refine G.condT rfl ?_ | refine G.condF rfl ?_ | refine G.condYes rfl (by omega) ?_ | refine G.condNo rfl (by omega) ?_) | (with_reducible refine G.exit rfl ?_))
    refine G.ret1 ok rfl ?_
    exact ⟨-1, rfl, ⟨fun _ => ha, fun _ => by omega⟩, rfl, rfl⟩
theorem hasOpen_calls (p : PartD) (s : Store) (hp : p.laid s) : Fn Try.prog 57 #[.slice p.ho.A p.ho.n p.ho.c, .func (.func 58) #[] #[]] s [] (fun e s' h' => ∃ b, e = .returned (.bool b) ∧ (b = false ↔ ∀ j, j < p.ho.n → p.ob j ≠ 0) ∧ s' = s ∧ h' = []) := by
  refine Fn.intro (args := [.slice p.ho.A p.ho.n p.ho.c, .func (.func 58) #[] #[]]) Try.func57 rfl Try.ntmps57 (Nat.le_of_ble_eq_true rfl) (fun C ok hh => ?_)
  repeat (first | (with_reducible first | refine GL.nil ?_ | refine G.region ?_ | refine G.seq ?_ | refine G.skip ?_ | refine G.block ?_ | refine G.inBlock ?_ | refine G.label ?_) | ((with_reducible show GL _ _ _ _ (_ :: _) _ _ _ _); first | refine GL.p ?_ | refine GL.pK ?_ | refine GL.store ?_ | refine GL.storeN ?_ | refine GL.boxA (fun g => ?_) | refine GL.box1 (fun g => ?_) | refine GL.alloc1 rfl (fun g => ?_) | refine GL.allocA (fun g => ?_) | refine GL.no ?_) | ((with_reducible show G _ _ _ (Item.code (Code.cond _ _ _) :: _) _ _ _); first | refine G.condT rfl ?_ | refine G.condF rfl ?_ | refine G.condYes rfl (by omega) ?_ | refine G.condNo rfl (by omega) ?_) | (with_reducible refine G.exit rfl ?_))
  refine GL.call rfl rfl (idxOpen_calls p s hp) .nil fun v s1 h1 hq hle => ?_
  obtain ⟨x, e1, hx, h3, rfl⟩ := hq
  subst s1
  cases e1
  rw [List.nil_append]
  by_cases h0 : 0 ≤ x
  · repeat (first | (with_reducible first | refine GL.nil ?_ | refine G.region ?_ | refine G.seq ?_ | refine G.skip ?_ | refine G.block ?_ | refine G.inBlock ?_ | refine G.label ?_) | ((with_reducible show GL _ _ _ _ (_ :: _) _ _ _ _); first | refine GL.p ?_ | refine GL.pK ?_ | refine GL.store ?_ | refine GL.storeN ?_ | refine GL.boxA (fun g => ?_) | refine GL.box1 (fun g => ?_) | refine GL.alloc1 rfl (fun g => ?_) | refine GL.allocA (fun g => ?_) | refine GL.no ?_) | ((with_reducible show G _ _ _ (Item.code (Code.cond _ _ _) :: _) _ _ _); first | refine G.condT rfl ?_ | refine G.condF rfl ?_ | refine G.condYes rfl (by omega) ?_ | refine G.condNo rfl (by omega) ?_) | (with_reducible refine G.exit rfl ?_))
    refine G.ret1 ok rfl ?_
    exact ⟨true, rfl, ⟨fun h => by simp at h, fun h => by have := hx.2 h; omega⟩, rfl, rfl⟩
  · repeat (first | (with_reducible first | refine GL.nil ?_ | refine G.region ?_ | refine G.seq ?_ | refine G.skip ?_ | refine G.block ?_ | refine G.inBlock ?_ | refine G.label ?_) | ((with_reducible show GL _ _ _ _ (_ :: _) _ _ _ _); first | refine GL.p ?_ | refine GL.pK ?_ | refine GL.store ?_ | refine GL.storeN ?_ | refine GL.boxA (fun g => ?_) | refine GL.box1 (fun g => ?_) | refine GL.alloc1 rfl (fun g => ?_) | refine GL.allocA (fun g => ?_) | refine GL.no ?_) | ((with_reducible show G _ _ _ (Item.code (Code.cond _ _ _) :: _) _ _ _); first | refine G.condT rfl ?_ | refine G.condF rfl ?_ | refine G.condYes rfl (by omega) ?_ | refine G.condNo rfl (by omega) ?_) | (with_reducible refine G.exit rfl ?_))
    refine G.ret1 ok rfl ?_
    exact ⟨false, rfl, ⟨fun _ => hx.1 (by omega), fun _ => rfl⟩, rfl, rfl⟩
end Go.Proofs.Ytnndjobhcncanaa
