/- TableJoins, TableTells: the walks. -/
import Derived.Test.YtnndjobhcncanaaU16
namespace Go.Proofs.Ytnndjobhcncanaa
open Go.RowKit
theorem mk_join {a b c : PartD} (h : mkOk a b) (h' : mkOk b c) {x y : TabD} (hx1 : x.st = a.st) (hx2 : x.en = a.en) (hx3 : x.l = mkL a b) (hx4 : x.l.length = x.h.n) (hy1 : y.st = b.st) (hy2 : y.en = b.en) (hy3 : y.l = mkL b c) (hy4 : y.l.length = y.h.n) : joinOk x y ∧ jl x y = mkL a c := by
  have hxo := mk_ok h hx1 hx2 hx3 hx4
  have hyo := mk_ok h' hy1 hy2 hy3 hy4
  have hin : ∀ i, i < x.h.n → y.st ≤ nth x.l i ∧ nth x.l i ≤ y.en := fun i hi => by
    rw [hx3, mkL_length] at hx4
    rw [hx3, mkL_nth a b i (by omega), hy1, hy2]
    exact ⟨mk_lo h i, mk_hi h i⟩
  refine ⟨⟨hxo, hyo, hin⟩, nth_ext (by rw [jl_length, hx3, mkL_length, mkL_length]) fun j hj => ?_⟩
  rw [jl_length, hx3, mkL_length] at hj
  have h1 := mk_lo h j
  have h2 := mk_hi h j
  rw [jl_nth x y j (by rw [hx3, mkL_length]; exact hj), hx3, mkL_nth a b j hj, hy3, hy1, mkL_nth a c j hj, mkL_nth b c _ (by omega)]
  exact mk_mk h h' j
set_option maxHeartbeats 32000000 in
theorem joins_calls (a b c : PartD) (s : Store) (ha : a.laid s) (hb : b.laid s) (hc : c.laid s) : Fn Try.prog 8 #[a.v, b.v, c.v] s [] (fun e _ h' => e = .returned (.bool true) ∧ h' = []) := by
  refine Fn.intro (args := [a.v, b.v, c.v]) Try.func8 rfl Try.ntmps8 (Nat.le_of_ble_eq_true rfl) (fun C ok hh => ?_)
  repeat (first | (with_reducible first | refine GL.nil ?_ | refine G.region ?_ | refine G.seq ?_ | refine G.skip ?_ | refine G.block ?_ | refine G.inBlock ?_ | refine G.label ?_) | ((with_reducible show GL _ _ _ _ (_ :: _) _ _ _ _); first | refine GL.p ?_ | refine GL.pK ?_ | refine GL.store ?_ | refine GL.storeN ?_ | refine GL.boxA (fun g => ?_) | refine GL.box1 (fun g => ?_) | refine GL.alloc1 rfl (fun g => ?_) | refine GL.allocA (fun g => ?_) | refine GL.no ?_) | ((with_reducible show G _ _ _ (Item.code (Code.cond _ _ _) :: _) _ _ _); first | refine G.condT rfl ?_ | refine G.condF rfl ?_ | refine G.condYes rfl (by omega) ?_ | refine G.condNo rfl (by omega) ?_) | (with_reducible refine G.exit rfl ?_))
  refine GL.call rfl rfl (rcheck_calls a s ha) .nil fun v s1 h1' hq hle1 => ?_
  obtain ⟨x, e1, hx, hs1, rfl⟩ := hq
  subst s1
  cases e1
  rw [List.nil_append]
  rcases hx with ⟨rfl, hka⟩ | ⟨rfl, hka⟩
  rotate_left
  · ((repeat (first | (with_reducible first | refine GL.nil ?_ | refine G.region ?_ | refine G.seq ?_ | refine G.skip ?_ | refine G.block ?_ | refine G.inBlock ?_ | refine G.label ?_) | ((with_reducible show GL _ _ _ _ (_ :: _) _ _ _ _); first | refine GL.p ?_ | refine GL.pK ?_ | refine GL.store ?_ | refine GL.storeN ?_ | refine GL.boxA (fun g => ?_) | refine GL.box1 (fun g => ?_) | refine GL.alloc1 rfl (fun g => ?_) | refine GL.allocA (fun g => ?_) | refine GL.no ?_) | ((with_reducible show G _ _ _ (Item.code (Code.cond _ _ _) :: _) _ _ _); first | refine G.condT rfl ?_ | refine G.condF rfl ?_ | refine G.condYes rfl (by omega) ?_ | refine G.condNo rfl (by omega) ?_) | (with_reducible refine G.exit rfl ?_))); refine GL.call rfl rfl (wakes23_calls _) .nil fun v sw hw' hq hlew => ?_; obtain ⟨e1, rfl⟩ := hq; cases e1; rw [List.nil_append]; (repeat (first | (with_reducible first | refine GL.nil ?_ | refine G.region ?_ | refine G.seq ?_ | refine G.skip ?_ | refine G.block ?_ | refine G.inBlock ?_ | refine G.label ?_) | ((with_reducible show GL _ _ _ _ (_ :: _) _ _ _ _); first | refine GL.p ?_ | refine GL.pK ?_ | refine GL.store ?_ | refine GL.storeN ?_ | refine GL.boxA (fun g => ?_) | refine GL.box1 (fun g => ?_) | refine GL.alloc1 rfl (fun g => ?_) | refine GL.allocA (fun g => ?_) | refine GL.no ?_) | ((with_reducible show G _ _ _ (Item.code (Code.cond _ _ _) :: _) _ _ _); first | refine G.condT rfl ?_ | refine G.condF rfl ?_ | refine G.condYes rfl (by omega) ?_ | refine G.condNo rfl (by omega) ?_) | (with_reducible refine G.exit rfl ?_))); refine G.sub .nil ?_; refine G.ret1 ok rfl ?_; exact ⟨rfl, rfl⟩)
  repeat (first | (with_reducible first | refine GL.nil ?_ | refine G.region ?_ | refine G.seq ?_ | refine G.skip ?_ | refine G.block ?_ | refine G.inBlock ?_ | refine G.label ?_) | ((with_reducible show GL _ _ _ _ (_ :: _) _ _ _ _); first | refine GL.p ?_ | refine GL.pK ?_ | refine GL.store ?_ | refine GL.storeN ?_ | refine GL.boxA (fun g => ?_) | refine GL.box1 (fun g => ?_) | refine GL.alloc1 rfl (fun g => ?_) | refine GL.allocA (fun g => ?_) | refine GL.no ?_) | ((with_reducible show G _ _ _ (Item.code (Code.cond _ _ _) :: _) _ _ _); first | refine G.condT rfl ?_ | refine G.condF rfl ?_ | refine G.condYes rfl (by omega) ?_ | refine G.condNo rfl (by omega) ?_) | (with_reducible refine G.exit rfl ?_))
  refine GL.call rfl rfl (rcheck_calls b s hb) .nil fun v s1 h1' hq hle1 => ?_
  obtain ⟨x, e1, hx, hs1, rfl⟩ := hq
  subst s1
  cases e1
  rw [List.nil_append]
  rcases hx with ⟨rfl, hkb⟩ | ⟨rfl, hkb⟩
  rotate_left
  · ((repeat (first | (with_reducible first | refine GL.nil ?_ | refine G.region ?_ | refine G.seq ?_ | refine G.skip ?_ | refine G.block ?_ | refine G.inBlock ?_ | refine G.label ?_) | ((with_reducible show GL _ _ _ _ (_ :: _) _ _ _ _); first | refine GL.p ?_ | refine GL.pK ?_ | refine GL.store ?_ | refine GL.storeN ?_ | refine GL.boxA (fun g => ?_) | refine GL.box1 (fun g => ?_) | refine GL.alloc1 rfl (fun g => ?_) | refine GL.allocA (fun g => ?_) | refine GL.no ?_) | ((with_reducible show G _ _ _ (Item.code (Code.cond _ _ _) :: _) _ _ _); first | refine G.condT rfl ?_ | refine G.condF rfl ?_ | refine G.condYes rfl (by omega) ?_ | refine G.condNo rfl (by omega) ?_) | (with_reducible refine G.exit rfl ?_))); refine GL.call rfl rfl (wakes23_calls _) .nil fun v sw hw' hq hlew => ?_; obtain ⟨e1, rfl⟩ := hq; cases e1; rw [List.nil_append]; (repeat (first | (with_reducible first | refine GL.nil ?_ | refine G.region ?_ | refine G.seq ?_ | refine G.skip ?_ | refine G.block ?_ | refine G.inBlock ?_ | refine G.label ?_) | ((with_reducible show GL _ _ _ _ (_ :: _) _ _ _ _); first | refine GL.p ?_ | refine GL.pK ?_ | refine GL.store ?_ | refine GL.storeN ?_ | refine GL.boxA (fun g => ?_) | refine GL.box1 (fun g => ?_) | refine GL.alloc1 rfl (fun g => ?_) | refine GL.allocA (fun g => ?_) | refine GL.no ?_) | ((with_reducible show G _ _ _ (Item.code (Code.cond _ _ _) :: _) _ _ _); first | refine G.condT rfl ?_ | refine G.condF rfl ?_ | refine G.condYes rfl (by omega) ?_ | refine G.condNo rfl (by omega) ?_) | (with_reducible refine G.exit rfl ?_))); refine G.sub .nil ?_; refine G.ret1 ok rfl ?_; exact ⟨rfl, rfl⟩)
  repeat (first | (with_reducible first | refine GL.nil ?_ | refine G.region ?_ | refine G.seq ?_ | refine G.skip ?_ | refine G.block ?_ | refine G.inBlock ?_ | refine G.label ?_) | ((with_reducible show GL _ _ _ _ (_ :: _) _ _ _ _); first | refine GL.p ?_ | refine GL.pK ?_ | refine GL.store ?_ | refine GL.storeN ?_ | refine GL.boxA (fun g => ?_) | refine GL.box1 (fun g => ?_) | refine GL.alloc1 rfl (fun g => ?_) | refine GL.allocA (fun g => ?_) | refine GL.no ?_) | ((with_reducible show G _ _ _ (Item.code (Code.cond _ _ _) :: _) _ _ _); first | refine G.condT rfl ?_ | refine G.condF rfl ?_ | refine G.condYes rfl (by omega) ?_ | refine G.condNo rfl (by omega) ?_) | (with_reducible refine G.exit rfl ?_))
  refine GL.call rfl rfl (rcheck_calls c s hc) .nil fun v s1 h1' hq hle1 => ?_
  obtain ⟨x, e1, hx, hs1, rfl⟩ := hq
  subst s1
  cases e1
  rw [List.nil_append]
  rcases hx with ⟨rfl, hkc⟩ | ⟨rfl, hkc⟩
  rotate_left
  · ((repeat (first | (with_reducible first | refine GL.nil ?_ | refine G.region ?_ | refine G.seq ?_ | refine G.skip ?_ | refine G.block ?_ | refine G.inBlock ?_ | refine G.label ?_) | ((with_reducible show GL _ _ _ _ (_ :: _) _ _ _ _); first | refine GL.p ?_ | refine GL.pK ?_ | refine GL.store ?_ | refine GL.storeN ?_ | refine GL.boxA (fun g => ?_) | refine GL.box1 (fun g => ?_) | refine GL.alloc1 rfl (fun g => ?_) | refine GL.allocA (fun g => ?_) | refine GL.no ?_) | ((with_reducible show G _ _ _ (Item.code (Code.cond _ _ _) :: _) _ _ _); first | refine G.condT rfl ?_ | refine G.condF rfl ?_ | refine G.condYes rfl (by omega) ?_ | refine G.condNo rfl (by omega) ?_) | (with_reducible refine G.exit rfl ?_))); refine GL.call rfl rfl (wakes23_calls _) .nil fun v sw hw' hq hlew => ?_; obtain ⟨e1, rfl⟩ := hq; cases e1; rw [List.nil_append]; (repeat (first | (with_reducible first | refine GL.nil ?_ | refine G.region ?_ | refine G.seq ?_ | refine G.skip ?_ | refine G.block ?_ | refine G.inBlock ?_ | refine G.label ?_) | ((with_reducible show GL _ _ _ _ (_ :: _) _ _ _ _); first | refine GL.p ?_ | refine GL.pK ?_ | refine GL.store ?_ | refine GL.storeN ?_ | refine GL.boxA (fun g => ?_) | refine GL.box1 (fun g => ?_) | refine GL.alloc1 rfl (fun g => ?_) | refine GL.allocA (fun g => ?_) | refine GL.no ?_) | ((with_reducible show G _ _ _ (Item.code (Code.cond _ _ _) :: _) _ _ _); first | refine G.condT rfl ?_ | refine G.condF rfl ?_ | refine G.condYes rfl (by omega) ?_ | refine G.condNo rfl (by omega) ?_) | (with_reducible refine G.exit rfl ?_))); refine G.sub .nil ?_; refine G.ret1 ok rfl ?_; exact ⟨rfl, rfl⟩)
  repeat (first | (with_reducible first | refine GL.nil ?_ | refine G.region ?_ | refine G.seq ?_ | refine G.skip ?_ | refine G.block ?_ | refine G.inBlock ?_ | refine G.label ?_) | ((with_reducible show GL _ _ _ _ (_ :: _) _ _ _ _); first | refine GL.p ?_ | refine GL.pK ?_ | refine GL.store ?_ | refine GL.storeN ?_ | refine GL.boxA (fun g => ?_) | refine GL.box1 (fun g => ?_) | refine GL.alloc1 rfl (fun g => ?_) | refine GL.allocA (fun g => ?_) | refine GL.no ?_) | ((with_reducible show G _ _ _ (Item.code (Code.cond _ _ _) :: _) _ _ _); first | refine G.condT rfl ?_ | refine G.condF rfl ?_ | refine G.condYes rfl (by omega) ?_ | refine G.condNo rfl (by omega) ?_) | (with_reducible refine G.exit rfl ?_))
  refine GL.call rfl rfl (small_calls a s ha hka) .nil fun v s1 h1' hq hle3 => ?_
  obtain ⟨b1, e1, hb1, hs1, rfl⟩ := hq
  subst s1
  cases e1
  rw [List.nil_append]
  cases b1
  · ((repeat (first | (with_reducible first | refine GL.nil ?_ | refine G.region ?_ | refine G.seq ?_ | refine G.skip ?_ | refine G.block ?_ | refine G.inBlock ?_ | refine G.label ?_) | ((with_reducible show GL _ _ _ _ (_ :: _) _ _ _ _); first | refine GL.p ?_ | refine GL.pK ?_ | refine GL.store ?_ | refine GL.storeN ?_ | refine GL.boxA (fun g => ?_) | refine GL.box1 (fun g => ?_) | refine GL.alloc1 rfl (fun g => ?_) | refine GL.allocA (fun g => ?_) | refine GL.no ?_) | ((with_reducible show G _ _ _ (Item.code (Code.cond _ _ _) :: _) _ _ _); first | refine G.condT rfl ?_ | refine G.condF rfl ?_ | refine G.condYes rfl (by omega) ?_ | refine G.condNo rfl (by omega) ?_) | (with_reducible refine G.exit rfl ?_))); refine GL.call rfl rfl (wakes23_calls _) .nil fun v sw hw' hq hlew => ?_; obtain ⟨e1, rfl⟩ := hq; cases e1; rw [List.nil_append]; (repeat (first | (with_reducible first | refine GL.nil ?_ | refine G.region ?_ | refine G.seq ?_ | refine G.skip ?_ | refine G.block ?_ | refine G.inBlock ?_ | refine G.label ?_) | ((with_reducible show GL _ _ _ _ (_ :: _) _ _ _ _); first | refine GL.p ?_ | refine GL.pK ?_ | refine GL.store ?_ | refine GL.storeN ?_ | refine GL.boxA (fun g => ?_) | refine GL.box1 (fun g => ?_) | refine GL.alloc1 rfl (fun g => ?_) | refine GL.allocA (fun g => ?_) | refine GL.no ?_) | ((with_reducible show G _ _ _ (Item.code (Code.cond _ _ _) :: _) _ _ _); first | refine G.condT rfl ?_ | refine G.condF rfl ?_ | refine G.condYes rfl (by omega) ?_ | refine G.condNo rfl (by omega) ?_) | (with_reducible refine G.exit rfl ?_))); refine G.sub .nil ?_; refine G.ret1 ok rfl ?_; exact ⟨rfl, rfl⟩)
  have hsa := hb1 rfl
  repeat (first | (with_reducible first | refine GL.nil ?_ | refine G.region ?_ | refine G.seq ?_ | refine G.skip ?_ | refine G.block ?_ | refine G.inBlock ?_ | refine G.label ?_) | ((with_reducible show GL _ _ _ _ (_ :: _) _ _ _ _); first | refine GL.p ?_ | refine GL.pK ?_ | refine GL.store ?_ | refine GL.storeN ?_ | refine GL.boxA (fun g => ?_) | refine GL.box1 (fun g => ?_) | refine GL.alloc1 rfl (fun g => ?_) | refine GL.allocA (fun g => ?_) | refine GL.no ?_) | ((with_reducible show G _ _ _ (Item.code (Code.cond _ _ _) :: _) _ _ _); first | refine G.condT rfl ?_ | refine G.condF rfl ?_ | refine G.condYes rfl (by omega) ?_ | refine G.condNo rfl (by omega) ?_) | (with_reducible refine G.exit rfl ?_))
  refine GL.call rfl rfl (small_calls b s hb hkb) .nil fun v s1 h1' hq hle3 => ?_
  obtain ⟨b1, e1, hb1, hs1, rfl⟩ := hq
  subst s1
  cases e1
  rw [List.nil_append]
  cases b1
  · ((repeat (first | (with_reducible first | refine GL.nil ?_ | refine G.region ?_ | refine G.seq ?_ | refine G.skip ?_ | refine G.block ?_ | refine G.inBlock ?_ | refine G.label ?_) | ((with_reducible show GL _ _ _ _ (_ :: _) _ _ _ _); first | refine GL.p ?_ | refine GL.pK ?_ | refine GL.store ?_ | refine GL.storeN ?_ | refine GL.boxA (fun g => ?_) | refine GL.box1 (fun g => ?_) | refine GL.alloc1 rfl (fun g => ?_) | refine GL.allocA (fun g => ?_) | refine GL.no ?_) | ((with_reducible show G _ _ _ (Item.code (Code.cond _ _ _) :: _) _ _ _); first | refine G.condT rfl ?_ | refine G.condF rfl ?_ | refine G.condYes rfl (by omega) ?_ | refine G.condNo rfl (by omega) ?_) | (with_reducible refine G.exit rfl ?_))); refine GL.call rfl rfl (wakes23_calls _) .nil fun v sw hw' hq hlew => ?_; obtain ⟨e1, rfl⟩ := hq; cases e1; rw [List.nil_append]; (repeat (first | (with_reducible first | refine GL.nil ?_ | refine G.region ?_ | refine G.seq ?_ | refine G.skip ?_ | refine G.block ?_ | refine G.inBlock ?_ | refine G.label ?_) | ((with_reducible show GL _ _ _ _ (_ :: _) _ _ _ _); first | refine GL.p ?_ | refine GL.pK ?_ | refine GL.store ?_ | refine GL.storeN ?_ | refine GL.boxA (fun g => ?_) | refine GL.box1 (fun g => ?_) | refine GL.alloc1 rfl (fun g => ?_) | refine GL.allocA (fun g => ?_) | refine GL.no ?_) | ((with_reducible show G _ _ _ (Item.code (Code.cond _ _ _) :: _) _ _ _); first | refine G.condT rfl ?_ | refine G.condF rfl ?_ | refine G.condYes rfl (by omega) ?_ | refine G.condNo rfl (by omega) ?_) | (with_reducible refine G.exit rfl ?_))); refine G.sub .nil ?_; refine G.ret1 ok rfl ?_; exact ⟨rfl, rfl⟩)
  have hsb := hb1 rfl
  repeat (first | (with_reducible first | refine GL.nil ?_ | refine G.region ?_ | refine G.seq ?_ | refine G.skip ?_ | refine G.block ?_ | refine G.inBlock ?_ | refine G.label ?_) | ((with_reducible show GL _ _ _ _ (_ :: _) _ _ _ _); first | refine GL.p ?_ | refine GL.pK ?_ | refine GL.store ?_ | refine GL.storeN ?_ | refine GL.boxA (fun g => ?_) | refine GL.box1 (fun g => ?_) | refine GL.alloc1 rfl (fun g => ?_) | refine GL.allocA (fun g => ?_) | refine GL.no ?_) | ((with_reducible show G _ _ _ (Item.code (Code.cond _ _ _) :: _) _ _ _); first | refine G.condT rfl ?_ | refine G.condF rfl ?_ | refine G.condYes rfl (by omega) ?_ | refine G.condNo rfl (by omega) ?_) | (with_reducible refine G.exit rfl ?_))
  refine GL.call rfl rfl (small_calls c s hc hkc) .nil fun v s1 h1' hq hle3 => ?_
  obtain ⟨b1, e1, -, hs1, rfl⟩ := hq
  subst s1
  cases e1
  rw [List.nil_append]
  cases b1
  · ((repeat (first | (with_reducible first | refine GL.nil ?_ | refine G.region ?_ | refine G.seq ?_ | refine G.skip ?_ | refine G.block ?_ | refine G.inBlock ?_ | refine G.label ?_) | ((with_reducible show GL _ _ _ _ (_ :: _) _ _ _ _); first | refine GL.p ?_ | refine GL.pK ?_ | refine GL.store ?_ | refine GL.storeN ?_ | refine GL.boxA (fun g => ?_) | refine GL.box1 (fun g => ?_) | refine GL.alloc1 rfl (fun g => ?_) | refine GL.allocA (fun g => ?_) | refine GL.no ?_) | ((with_reducible show G _ _ _ (Item.code (Code.cond _ _ _) :: _) _ _ _); first | refine G.condT rfl ?_ | refine G.condF rfl ?_ | refine G.condYes rfl (by omega) ?_ | refine G.condNo rfl (by omega) ?_) | (with_reducible refine G.exit rfl ?_))); refine GL.call rfl rfl (wakes23_calls _) .nil fun v sw hw' hq hlew => ?_; obtain ⟨e1, rfl⟩ := hq; cases e1; rw [List.nil_append]; (repeat (first | (with_reducible first | refine GL.nil ?_ | refine G.region ?_ | refine G.seq ?_ | refine G.skip ?_ | refine G.block ?_ | refine G.inBlock ?_ | refine G.label ?_) | ((with_reducible show GL _ _ _ _ (_ :: _) _ _ _ _); first | refine GL.p ?_ | refine GL.pK ?_ | refine GL.store ?_ | refine GL.storeN ?_ | refine GL.boxA (fun g => ?_) | refine GL.box1 (fun g => ?_) | refine GL.alloc1 rfl (fun g => ?_) | refine GL.allocA (fun g => ?_) | refine GL.no ?_) | ((with_reducible show G _ _ _ (Item.code (Code.cond _ _ _) :: _) _ _ _); first | refine G.condT rfl ?_ | refine G.condF rfl ?_ | refine G.condYes rfl (by omega) ?_ | refine G.condNo rfl (by omega) ?_) | (with_reducible refine G.exit rfl ?_))); refine G.sub .nil ?_; refine G.ret1 ok rfl ?_; exact ⟨rfl, rfl⟩)
  by_cases hn : (a.hr.n : Int) ≠ b.hr.n
  · ((repeat (first | (with_reducible first | refine GL.nil ?_ | refine G.region ?_ | refine G.seq ?_ | refine G.skip ?_ | refine G.block ?_ | refine G.inBlock ?_ | refine G.label ?_) | ((with_reducible show GL _ _ _ _ (_ :: _) _ _ _ _); first | refine GL.p ?_ | refine GL.pK ?_ | refine GL.store ?_ | refine GL.storeN ?_ | refine GL.boxA (fun g => ?_) | refine GL.box1 (fun g => ?_) | refine GL.alloc1 rfl (fun g => ?_) | refine GL.allocA (fun g => ?_) | refine GL.no ?_) | ((with_reducible show G _ _ _ (Item.code (Code.cond _ _ _) :: _) _ _ _); first | refine G.condT rfl ?_ | refine G.condF rfl ?_ | refine G.condYes rfl (by omega) ?_ | refine G.condNo rfl (by omega) ?_) | (with_reducible refine G.exit rfl ?_))); refine GL.call rfl rfl (wakes23_calls _) .nil fun v sw hw' hq hlew => ?_; obtain ⟨e1, rfl⟩ := hq; cases e1; rw [List.nil_append]; (repeat (first | (with_reducible first | refine GL.nil ?_ | refine G.region ?_ | refine G.seq ?_ | refine G.skip ?_ | refine G.block ?_ | refine G.inBlock ?_ | refine G.label ?_) | ((with_reducible show GL _ _ _ _ (_ :: _) _ _ _ _); first | refine GL.p ?_ | refine GL.pK ?_ | refine GL.store ?_ | refine GL.storeN ?_ | refine GL.boxA (fun g => ?_) | refine GL.box1 (fun g => ?_) | refine GL.alloc1 rfl (fun g => ?_) | refine GL.allocA (fun g => ?_) | refine GL.no ?_) | ((with_reducible show G _ _ _ (Item.code (Code.cond _ _ _) :: _) _ _ _); first | refine G.condT rfl ?_ | refine G.condF rfl ?_ | refine G.condYes rfl (by omega) ?_ | refine G.condNo rfl (by omega) ?_) | (with_reducible refine G.exit rfl ?_))); refine G.sub .nil ?_; refine G.ret1 ok rfl ?_; exact ⟨rfl, rfl⟩)
  by_cases hn' : (b.hr.n : Int) ≠ c.hr.n
  · ((repeat (first | (with_reducible first | refine GL.nil ?_ | refine G.region ?_ | refine G.seq ?_ | refine G.skip ?_ | refine G.block ?_ | refine G.inBlock ?_ | refine G.label ?_) | ((with_reducible show GL _ _ _ _ (_ :: _) _ _ _ _); first | refine GL.p ?_ | refine GL.pK ?_ | refine GL.store ?_ | refine GL.storeN ?_ | refine GL.boxA (fun g => ?_) | refine GL.box1 (fun g => ?_) | refine GL.alloc1 rfl (fun g => ?_) | refine GL.allocA (fun g => ?_) | refine GL.no ?_) | ((with_reducible show G _ _ _ (Item.code (Code.cond _ _ _) :: _) _ _ _); first | refine G.condT rfl ?_ | refine G.condF rfl ?_ | refine G.condYes rfl (by omega) ?_ | refine G.condNo rfl (by omega) ?_) | (with_reducible refine G.exit rfl ?_))); refine GL.call rfl rfl (wakes23_calls _) .nil fun v sw hw' hq hlew => ?_; obtain ⟨e1, rfl⟩ := hq; cases e1; rw [List.nil_append]; (repeat (first | (with_reducible first | refine GL.nil ?_ | refine G.region ?_ | refine G.seq ?_ | refine G.skip ?_ | refine G.block ?_ | refine G.inBlock ?_ | refine G.label ?_) | ((with_reducible show GL _ _ _ _ (_ :: _) _ _ _ _); first | refine GL.p ?_ | refine GL.pK ?_ | refine GL.store ?_ | refine GL.storeN ?_ | refine GL.boxA (fun g => ?_) | refine GL.box1 (fun g => ?_) | refine GL.alloc1 rfl (fun g => ?_) | refine GL.allocA (fun g => ?_) | refine GL.no ?_) | ((with_reducible show G _ _ _ (Item.code (Code.cond _ _ _) :: _) _ _ _); first | refine G.condT rfl ?_ | refine G.condF rfl ?_ | refine G.condYes rfl (by omega) ?_ | refine G.condNo rfl (by omega) ?_) | (with_reducible refine G.exit rfl ?_))); refine G.sub .nil ?_; refine G.ret1 ok rfl ?_; exact ⟨rfl, rfl⟩)
  have hmk : mkOk a b := ⟨hka, hkb, by omega⟩
  have hmk' : mkOk b c := ⟨hkb, hkc, by omega⟩
  have hmk'' : mkOk a c := ⟨hka, hkc, by omega⟩
  repeat (first | (with_reducible first | refine GL.nil ?_ | refine G.region ?_ | refine G.seq ?_ | refine G.skip ?_ | refine G.block ?_ | refine G.inBlock ?_ | refine G.label ?_) | ((with_reducible show GL _ _ _ _ (_ :: _) _ _ _ _); first | refine GL.p ?_ | refine GL.pK ?_ | refine GL.store ?_ | refine GL.storeN ?_ | refine GL.boxA (fun g => ?_) | refine GL.box1 (fun g => ?_) | refine GL.alloc1 rfl (fun g => ?_) | refine GL.allocA (fun g => ?_) | refine GL.no ?_) | ((with_reducible show G _ _ _ (Item.code (Code.cond _ _ _) :: _) _ _ _); first | refine G.condT rfl ?_ | refine G.condF rfl ?_ | refine G.condYes rfl (by omega) ?_ | refine G.condNo rfl (by omega) ?_) | (with_reducible refine G.exit rfl ?_))
  refine GL.call rfl rfl (make_calls a b s ha hb (fun _ => by omega)) .nil fun v s1 h1' hq hle5 => ?_
  obtain ⟨x, i1, e1, hm1, hx, rfl⟩ := hq
  cases e1
  rw [List.nil_append]
  obtain ⟨rfl, hx1, hx2, hx3⟩ := makeIs_ok hm1 hmk
  repeat (first | (with_reducible first | refine GL.nil ?_ | refine G.region ?_ | refine G.seq ?_ | refine G.skip ?_ | refine G.block ?_ | refine G.inBlock ?_ | refine G.label ?_) | ((with_reducible show GL _ _ _ _ (_ :: _) _ _ _ _); first | refine GL.p ?_ | refine GL.pK ?_ | refine GL.store ?_ | refine GL.storeN ?_ | refine GL.boxA (fun g => ?_) | refine GL.box1 (fun g => ?_) | refine GL.alloc1 rfl (fun g => ?_) | refine GL.allocA (fun g => ?_) | refine GL.no ?_) | ((with_reducible show G _ _ _ (Item.code (Code.cond _ _ _) :: _) _ _ _); first | refine G.condT rfl ?_ | refine G.condF rfl ?_ | refine G.condYes rfl (by omega) ?_ | refine G.condNo rfl (by omega) ?_) | (with_reducible refine G.exit rfl ?_))
  refine GL.call rfl rfl (make_calls b c s1 (hb.le hle5) (hc.le hle5) (fun _ => by omega)) .nil fun v s2 h1' hq hle6 => ?_
  obtain ⟨y, i2, e1, hm2, hy, rfl⟩ := hq
  cases e1
  rw [List.nil_append]
  obtain ⟨rfl, hy1, hy2, hy3⟩ := makeIs_ok hm2 hmk'
  have hle56 := hle5.trans hle6
  repeat (first | (with_reducible first | refine GL.nil ?_ | refine G.region ?_ | refine G.seq ?_ | refine G.skip ?_ | refine G.block ?_ | refine G.inBlock ?_ | refine G.label ?_) | ((with_reducible show GL _ _ _ _ (_ :: _) _ _ _ _); first | refine GL.p ?_ | refine GL.pK ?_ | refine GL.store ?_ | refine GL.storeN ?_ | refine GL.boxA (fun g => ?_) | refine GL.box1 (fun g => ?_) | refine GL.alloc1 rfl (fun g => ?_) | refine GL.allocA (fun g => ?_) | refine GL.no ?_) | ((with_reducible show G _ _ _ (Item.code (Code.cond _ _ _) :: _) _ _ _); first | refine G.condT rfl ?_ | refine G.condF rfl ?_ | refine G.condYes rfl (by omega) ?_ | refine G.condNo rfl (by omega) ?_) | (with_reducible refine G.exit rfl ?_))
  refine GL.call rfl rfl (make_calls a c s2 (ha.le hle56) (hc.le hle56) (fun _ => by omega)) .nil fun v s3 h1' hq hle7 => ?_
  obtain ⟨z, i3, e1, hm3, hz, rfl⟩ := hq
  cases e1
  rw [List.nil_append]
  obtain ⟨rfl, hz1, hz2, hz3⟩ := makeIs_ok hm3 hmk''
  obtain ⟨hjo, hjl⟩ := mk_join hmk hmk' hx1 hx2 hx3 hx.ilen hy1 hy2 hy3 hy.ilen
  repeat (first | (with_reducible first | refine GL.nil ?_ | refine G.region ?_ | refine G.seq ?_ | refine G.skip ?_ | refine G.block ?_ | refine G.inBlock ?_ | refine G.label ?_) | ((with_reducible show GL _ _ _ _ (_ :: _) _ _ _ _); first | refine GL.p ?_ | refine GL.pK ?_ | refine GL.store ?_ | refine GL.storeN ?_ | refine GL.boxA (fun g => ?_) | refine GL.box1 (fun g => ?_) | refine GL.alloc1 rfl (fun g => ?_) | refine GL.allocA (fun g => ?_) | refine GL.no ?_) | ((with_reducible show G _ _ _ (Item.code (Code.cond _ _ _) :: _) _ _ _); first | refine G.condT rfl ?_ | refine G.condF rfl ?_ | refine G.condYes rfl (by omega) ?_ | refine G.condNo rfl (by omega) ?_) | (with_reducible refine G.exit rfl ?_))
  refine GL.call rfl rfl (join_calls x y s3 (hx.le (hle6.trans hle7)) (hy.le hle7)) .nil fun v s4 h1' hq hle8 => ?_
  obtain ⟨o, i4, e1, hj, ho, rfl⟩ := hq
  cases e1
  rw [List.nil_append]
  rcases hj with ⟨hj, _⟩ | ⟨-, rfl, ho1, ho2, ho3⟩
  · exact absurd hjo hj
  have hsame : o.same z := ⟨by rw [ho1, hx1, hz1], by rw [ho2, hx2, hz2], by rw [ho3, hjl, hz3]⟩
  repeat (first | (with_reducible first | refine GL.nil ?_ | refine G.region ?_ | refine G.seq ?_ | refine G.skip ?_ | refine G.block ?_ | refine G.inBlock ?_ | refine G.label ?_) | ((with_reducible show GL _ _ _ _ (_ :: _) _ _ _ _); first | refine GL.p ?_ | refine GL.pK ?_ | refine GL.store ?_ | refine GL.storeN ?_ | refine GL.boxA (fun g => ?_) | refine GL.box1 (fun g => ?_) | refine GL.alloc1 rfl (fun g => ?_) | refine GL.allocA (fun g => ?_) | refine GL.no ?_) | ((with_reducible show G _ _ _ (Item.code (Code.cond _ _ _) :: _) _ _ _); first | refine G.condT rfl ?_ | refine G.condF rfl ?_ | refine G.condYes rfl (by omega) ?_ | refine G.condNo rfl (by omega) ?_) | (with_reducible refine G.exit rfl ?_))
  refine GL.call rfl rfl (tsame_calls o z s4 ho (hz.le hle8)) .nil fun v s5 h1' hq hle9 => ?_
  obtain ⟨e1, hs1, rfl⟩ := hq
  rw [decide_eq_true hsame] at e1
  subst s5
  cases e1
  rw [List.nil_append]
  ((repeat (first | (with_reducible first | refine GL.nil ?_ | refine G.region ?_ | refine G.seq ?_ | refine G.skip ?_ | refine G.block ?_ | refine G.inBlock ?_ | refine G.label ?_) | ((with_reducible show GL _ _ _ _ (_ :: _) _ _ _ _); first | refine GL.p ?_ | refine GL.pK ?_ | refine GL.store ?_ | refine GL.storeN ?_ | refine GL.boxA (fun g => ?_) | refine GL.box1 (fun g => ?_) | refine GL.alloc1 rfl (fun g => ?_) | refine GL.allocA (fun g => ?_) | refine GL.no ?_) | ((with_reducible show G _ _ _ (Item.code (Code.cond _ _ _) :: _) _ _ _); first | refine G.condT rfl ?_ | refine G.condF rfl ?_ | refine G.condYes rfl (by omega) ?_ | refine G.condNo rfl (by omega) ?_) | (with_reducible refine G.exit rfl ?_))); refine GL.call rfl rfl (wakes23_calls _) .nil fun v sw hw' hq hlew => ?_; obtain ⟨e1, rfl⟩ := hq; cases e1; rw [List.nil_append]; (repeat (first | (with_reducible first | refine GL.nil ?_ | refine G.region ?_ | refine G.seq ?_ | refine G.skip ?_ | refine G.block ?_ | refine G.inBlock ?_ | refine G.label ?_) | ((with_reducible show GL _ _ _ _ (_ :: _) _ _ _ _); first | refine GL.p ?_ | refine GL.pK ?_ | refine GL.store ?_ | refine GL.storeN ?_ | refine GL.boxA (fun g => ?_) | refine GL.box1 (fun g => ?_) | refine GL.alloc1 rfl (fun g => ?_) | refine GL.allocA (fun g => ?_) | refine GL.no ?_) | ((with_reducible show G _ _ _ (Item.code (Code.cond _ _ _) :: _) _ _ _); first | refine G.condT rfl ?_ | refine G.condF rfl ?_ | refine G.condYes rfl (by omega) ?_ | refine G.condNo rfl (by omega) ?_) | (with_reducible refine G.exit rfl ?_))); refine G.sub .nil ?_; refine G.ret1 ok rfl ?_; exact ⟨rfl, rfl⟩)
set_option maxHeartbeats 32000000 in
theorem tells_calls (t u : TabD) (o : Int) (s : Store) (ht : t.laid s) (hu : u.laid s) : Fn Try.prog 7 #[t.v, u.v, .int .i64 o] s [] (fun e _ h' => e = .returned (.bool true) ∧ h' = []) := by
  refine Fn.intro (args := [t.v, u.v, .int .i64 o]) Try.func7 rfl Try.ntmps7 (Nat.le_of_ble_eq_true rfl) (fun C ok hh => ?_)
  repeat (first | (with_reducible first | refine GL.nil ?_ | refine G.region ?_ | refine G.seq ?_ | refine G.skip ?_ | refine G.block ?_ | refine G.inBlock ?_ | refine G.label ?_) | ((with_reducible show GL _ _ _ _ (_ :: _) _ _ _ _); first | refine GL.p ?_ | refine GL.pK ?_ | refine GL.store ?_ | refine GL.storeN ?_ | refine GL.boxA (fun g => ?_) | refine GL.box1 (fun g => ?_) | refine GL.alloc1 rfl (fun g => ?_) | refine GL.allocA (fun g => ?_) | refine GL.no ?_) | ((with_reducible show G _ _ _ (Item.code (Code.cond _ _ _) :: _) _ _ _); first | refine G.condT rfl ?_ | refine G.condF rfl ?_ | refine G.condYes rfl (by omega) ?_ | refine G.condNo rfl (by omega) ?_) | (with_reducible refine G.exit rfl ?_))
  rename_i g3
  refine GL.call rfl rfl (tgreat_calls t s) .nil fun v s1 h1' hq hle1 => ?_
  obtain ⟨e1, hs1, rfl⟩ := hq
  subst s1
  cases e1
  rw [List.nil_append]
  by_cases h6 : 600 < (t.h.n : Int)
  · rw [decide_eq_true h6]
    ((repeat (first | (with_reducible first | refine GL.nil ?_ | refine G.region ?_ | refine G.seq ?_ | refine G.skip ?_ | refine G.block ?_ | refine G.inBlock ?_ | refine G.label ?_) | ((with_reducible show GL _ _ _ _ (_ :: _) _ _ _ _); first | refine GL.p ?_ | refine GL.pK ?_ | refine GL.store ?_ | refine GL.storeN ?_ | refine GL.boxA (fun g => ?_) | refine GL.box1 (fun g => ?_) | refine GL.alloc1 rfl (fun g => ?_) | refine GL.allocA (fun g => ?_) | refine GL.no ?_) | ((with_reducible show G _ _ _ (Item.code (Code.cond _ _ _) :: _) _ _ _); first | refine G.condT rfl ?_ | refine G.condF rfl ?_ | refine G.condYes rfl (by omega) ?_ | refine G.condNo rfl (by omega) ?_) | (with_reducible refine G.exit rfl ?_))); refine GL.call rfl rfl (wakes23_calls _) .nil fun v sw hw' hq hlew => ?_; obtain ⟨e1, rfl⟩ := hq; cases e1; rw [List.nil_append]; (repeat (first | (with_reducible first | refine GL.nil ?_ | refine G.region ?_ | refine G.seq ?_ | refine G.skip ?_ | refine G.block ?_ | refine G.inBlock ?_ | refine G.label ?_) | ((with_reducible show GL _ _ _ _ (_ :: _) _ _ _ _); first | refine GL.p ?_ | refine GL.pK ?_ | refine GL.store ?_ | refine GL.storeN ?_ | refine GL.boxA (fun g => ?_) | refine GL.box1 (fun g => ?_) | refine GL.alloc1 rfl (fun g => ?_) | refine GL.allocA (fun g => ?_) | refine GL.no ?_) | ((with_reducible show G _ _ _ (Item.code (Code.cond _ _ _) :: _) _ _ _); first | refine G.condT rfl ?_ | refine G.condF rfl ?_ | refine G.condYes rfl (by omega) ?_ | refine G.condNo rfl (by omega) ?_) | (with_reducible refine G.exit rfl ?_))); refine G.sub .nil ?_; refine G.ret1 ok rfl ?_; exact ⟨rfl, rfl⟩)
  rw [decide_eq_false h6]
  repeat (first | (with_reducible first | refine GL.nil ?_ | refine G.region ?_ | refine G.seq ?_ | refine G.skip ?_ | refine G.block ?_ | refine G.inBlock ?_ | refine G.label ?_) | ((with_reducible show GL _ _ _ _ (_ :: _) _ _ _ _); first | refine GL.p ?_ | refine GL.pK ?_ | refine GL.store ?_ | refine GL.storeN ?_ | refine GL.boxA (fun g => ?_) | refine GL.box1 (fun g => ?_) | refine GL.alloc1 rfl (fun g => ?_) | refine GL.allocA (fun g => ?_) | refine GL.no ?_) | ((with_reducible show G _ _ _ (Item.code (Code.cond _ _ _) :: _) _ _ _); first | refine G.condT rfl ?_ | refine G.condF rfl ?_ | refine G.condYes rfl (by omega) ?_ | refine G.condNo rfl (by omega) ?_) | (with_reducible refine G.exit rfl ?_))
  refine GL.call rfl rfl (tgreat_calls u s) .nil fun v s1 h1' hq hle1 => ?_
  obtain ⟨e1, hs1, rfl⟩ := hq
  subst s1
  cases e1
  rw [List.nil_append]
  by_cases h7 : 600 < (u.h.n : Int)
  · rw [decide_eq_true h7]
    ((repeat (first | (with_reducible first | refine GL.nil ?_ | refine G.region ?_ | refine G.seq ?_ | refine G.skip ?_ | refine G.block ?_ | refine G.inBlock ?_ | refine G.label ?_) | ((with_reducible show GL _ _ _ _ (_ :: _) _ _ _ _); first | refine GL.p ?_ | refine GL.pK ?_ | refine GL.store ?_ | refine GL.storeN ?_ | refine GL.boxA (fun g => ?_) | refine GL.box1 (fun g => ?_) | refine GL.alloc1 rfl (fun g => ?_) | refine GL.allocA (fun g => ?_) | refine GL.no ?_) | ((with_reducible show G _ _ _ (Item.code (Code.cond _ _ _) :: _) _ _ _); first | refine G.condT rfl ?_ | refine G.condF rfl ?_ | refine G.condYes rfl (by omega) ?_ | refine G.condNo rfl (by omega) ?_) | (with_reducible refine G.exit rfl ?_))); refine GL.call rfl rfl (wakes23_calls _) .nil fun v sw hw' hq hlew => ?_; obtain ⟨e1, rfl⟩ := hq; cases e1; rw [List.nil_append]; (repeat (first | (with_reducible first | refine GL.nil ?_ | refine G.region ?_ | refine G.seq ?_ | refine G.skip ?_ | refine G.block ?_ | refine G.inBlock ?_ | refine G.label ?_) | ((with_reducible show GL _ _ _ _ (_ :: _) _ _ _ _); first | refine GL.p ?_ | refine GL.pK ?_ | refine GL.store ?_ | refine GL.storeN ?_ | refine GL.boxA (fun g => ?_) | refine GL.box1 (fun g => ?_) | refine GL.alloc1 rfl (fun g => ?_) | refine GL.allocA (fun g => ?_) | refine GL.no ?_) | ((with_reducible show G _ _ _ (Item.code (Code.cond _ _ _) :: _) _ _ _); first | refine G.condT rfl ?_ | refine G.condF rfl ?_ | refine G.condYes rfl (by omega) ?_ | refine G.condNo rfl (by omega) ?_) | (with_reducible refine G.exit rfl ?_))); refine G.sub .nil ?_; refine G.ret1 ok rfl ?_; exact ⟨rfl, rfl⟩)
  rw [decide_eq_false h7]
  repeat (first | (with_reducible first | refine GL.nil ?_ | refine G.region ?_ | refine G.seq ?_ | refine G.skip ?_ | refine G.block ?_ | refine G.inBlock ?_ | refine G.label ?_) | ((with_reducible show GL _ _ _ _ (_ :: _) _ _ _ _); first | refine GL.p ?_ | refine GL.pK ?_ | refine GL.store ?_ | refine GL.storeN ?_ | refine GL.boxA (fun g => ?_) | refine GL.box1 (fun g => ?_) | refine GL.alloc1 rfl (fun g => ?_) | refine GL.allocA (fun g => ?_) | refine GL.no ?_) | ((with_reducible show G _ _ _ (Item.code (Code.cond _ _ _) :: _) _ _ _); first | refine G.condT rfl ?_ | refine G.condF rfl ?_ | refine G.condYes rfl (by omega) ?_ | refine G.condNo rfl (by omega) ?_) | (with_reducible refine G.exit rfl ?_))
  refine GL.call rfl rfl (to_calls t o s ht) .nil fun v s1 h1' hq hle1 => ?_
  obtain ⟨x, y, e1, hto, hs1, rfl⟩ := hq
  subst s1
  cases e1
  rw [List.nil_append]
  repeat (first | (with_reducible first | refine GL.nil ?_ | refine G.region ?_ | refine G.seq ?_ | refine G.skip ?_ | refine G.block ?_ | refine G.inBlock ?_ | refine G.label ?_) | ((with_reducible show GL _ _ _ _ (_ :: _) _ _ _ _); first | refine GL.p ?_ | refine GL.pK ?_ | refine GL.store ?_ | refine GL.storeN ?_ | refine GL.boxA (fun g => ?_) | refine GL.box1 (fun g => ?_) | refine GL.alloc1 rfl (fun g => ?_) | refine GL.allocA (fun g => ?_) | refine GL.no ?_) | ((with_reducible show G _ _ _ (Item.code (Code.cond _ _ _) :: _) _ _ _); first | refine G.condT rfl ?_ | refine G.condF rfl ?_ | refine G.condYes rfl (by omega) ?_ | refine G.condNo rfl (by omega) ?_) | (with_reducible refine G.exit rfl ?_))
  refine GL.call rfl rfl (toR_calls t o s ht) .nil fun v s1 h1' hq hle1 => ?_
  obtain ⟨x', y', e1, hto', hs1, rfl⟩ := hq
  subst s1
  cases e1
  rw [List.nil_append]
  obtain ⟨rfl, rfl⟩ := hto.same hto'
  repeat (first | (with_reducible first | refine GL.nil ?_ | refine G.region ?_ | refine G.seq ?_ | refine G.skip ?_ | refine G.block ?_ | refine G.inBlock ?_ | refine G.label ?_) | ((with_reducible show GL _ _ _ _ (_ :: _) _ _ _ _); first | refine GL.p ?_ | refine GL.pK ?_ | refine GL.store ?_ | refine GL.storeN ?_ | refine GL.boxA (fun g => ?_) | refine GL.box1 (fun g => ?_) | refine GL.alloc1 rfl (fun g => ?_) | refine GL.allocA (fun g => ?_) | refine GL.no ?_) | ((with_reducible show G _ _ _ (Item.code (Code.cond _ _ _) :: _) _ _ _); first | refine G.condT rfl ?_ | refine G.condF rfl ?_ | refine G.condYes rfl (by omega) ?_ | refine G.condNo rfl (by omega) ?_) | (with_reducible refine G.exit rfl ?_))
  refine GL.call rfl rfl (back_calls t o s ht) .nil fun v s1 h1' hq hle1 => ?_
  obtain ⟨m, b, e1, hbk, hs1, rfl⟩ := hq
  subst s1
  cases e1
  rw [List.nil_append]
  repeat (first | (with_reducible first | refine GL.nil ?_ | refine G.region ?_ | refine G.seq ?_ | refine G.skip ?_ | refine G.block ?_ | refine G.inBlock ?_ | refine G.label ?_) | ((with_reducible show GL _ _ _ _ (_ :: _) _ _ _ _); first | refine GL.p ?_ | refine GL.pK ?_ | refine GL.store ?_ | refine GL.storeN ?_ | refine GL.boxA (fun g => ?_) | refine GL.box1 (fun g => ?_) | refine GL.alloc1 rfl (fun g => ?_) | refine GL.allocA (fun g => ?_) | refine GL.no ?_) | ((with_reducible show G _ _ _ (Item.code (Code.cond _ _ _) :: _) _ _ _); first | refine G.condT rfl ?_ | refine G.condF rfl ?_ | refine G.condYes rfl (by omega) ?_ | refine G.condNo rfl (by omega) ?_) | (with_reducible refine G.exit rfl ?_))
  refine GL.call rfl rfl (backR_calls t o s ht) .nil fun v s1 h1' hq hle1 => ?_
  obtain ⟨m', b', e1, hbk', hs1, rfl⟩ := hq
  subst s1
  cases e1
  rw [List.nil_append]
  obtain ⟨rfl, rfl⟩ := hbk.same hbk'
  repeat (first | (with_reducible first | refine GL.nil ?_ | refine G.region ?_ | refine G.seq ?_ | refine G.skip ?_ | refine G.block ?_ | refine G.inBlock ?_ | refine G.label ?_) | ((with_reducible show GL _ _ _ _ (_ :: _) _ _ _ _); first | refine GL.p ?_ | refine GL.pK ?_ | refine GL.store ?_ | refine GL.storeN ?_ | refine GL.boxA (fun g => ?_) | refine GL.box1 (fun g => ?_) | refine GL.alloc1 rfl (fun g => ?_) | refine GL.allocA (fun g => ?_) | refine GL.no ?_) | ((with_reducible show G _ _ _ (Item.code (Code.cond _ _ _) :: _) _ _ _); first | refine G.condT rfl ?_ | refine G.condF rfl ?_ | refine G.condYes rfl (by omega) ?_ | refine G.condNo rfl (by omega) ?_) | (with_reducible refine G.exit rfl ?_))
  rename_i g4
  refine GL.call rfl rfl (join_calls t u s ht hu) .nil fun v s1 h1' hq hle2 => ?_
  obtain ⟨p, i, e1, hj, hp, rfl⟩ := hq
  cases e1
  rw [List.nil_append]
  replace ht := ht.le hle2
  replace hu := hu.le hle2
  repeat (first | (with_reducible first | refine GL.nil ?_ | refine G.region ?_ | refine G.seq ?_ | refine G.skip ?_ | refine G.block ?_ | refine G.inBlock ?_ | refine G.label ?_) | ((with_reducible show GL _ _ _ _ (_ :: _) _ _ _ _); first | refine GL.p ?_ | refine GL.pK ?_ | refine GL.store ?_ | refine GL.storeN ?_ | refine GL.boxA (fun g => ?_) | refine GL.box1 (fun g => ?_) | refine GL.alloc1 rfl (fun g => ?_) | refine GL.allocA (fun g => ?_) | refine GL.no ?_) | ((with_reducible show G _ _ _ (Item.code (Code.cond _ _ _) :: _) _ _ _); first | refine G.condT rfl ?_ | refine G.condF rfl ?_ | refine G.condYes rfl (by omega) ?_ | refine G.condNo rfl (by omega) ?_) | (with_reducible refine G.exit rfl ?_))
  refine GL.call rfl rfl (joinR_calls t u s1 ht hu) .nil fun v s2 h1' hq hle3 => ?_
  obtain ⟨q, j, e1, hj', hq', rfl⟩ := hq
  cases e1
  rw [List.nil_append]
  obtain ⟨hsame, rfl⟩ := hj.same hj'
  replace ht := ht.le hle3
  replace hu := hu.le hle3
  replace hp := hp.le hle3
  repeat (first | (with_reducible first | refine GL.nil ?_ | refine G.region ?_ | refine G.seq ?_ | refine G.skip ?_ | refine G.block ?_ | refine G.inBlock ?_ | refine G.label ?_) | ((with_reducible show GL _ _ _ _ (_ :: _) _ _ _ _); first | refine GL.p ?_ | refine GL.pK ?_ | refine GL.store ?_ | refine GL.storeN ?_ | refine GL.boxA (fun g => ?_) | refine GL.box1 (fun g => ?_) | refine GL.alloc1 rfl (fun g => ?_) | refine GL.allocA (fun g => ?_) | refine GL.no ?_) | ((with_reducible show G _ _ _ (Item.code (Code.cond _ _ _) :: _) _ _ _); first | refine G.condT rfl ?_ | refine G.condF rfl ?_ | refine G.condYes rfl (by omega) ?_ | refine G.condNo rfl (by omega) ?_) | (with_reducible refine G.exit rfl ?_))
  cases b
  all_goals
    refine G.draw0 (m := 48) (lay 48 0) follows_mixed ?_
    (first | refine GD.p 0 (lay 48 1) ?_ | refine GD.no 0 (lay 48 1) ?_ | refine GD.pK 0 (lay 48 1) ?_); (first | refine GD.p 1 (lay 48 3) ?_ | refine GD.no 1 (lay 48 3) ?_ | refine GD.pK 1 (lay 48 3) ?_); (first | refine GD.p 2 (lay 48 7) ?_ | refine GD.no 2 (lay 48 7) ?_ | refine GD.pK 2 (lay 48 7) ?_); (first | refine GD.p 3 (lay 48 15) ?_ | refine GD.no 3 (lay 48 15) ?_ | refine GD.pK 3 (lay 48 15) ?_); (first | refine GD.p 4 (lay 48 31) ?_ | refine GD.no 4 (lay 48 31) ?_ | refine GD.pK 4 (lay 48 31) ?_); (first | refine GD.p 5 (lay 48 63) ?_ | refine GD.no 5 (lay 48 63) ?_ | refine GD.pK 5 (lay 48 63) ?_); (first | refine GD.p 6 (lay 48 127) ?_ | refine GD.no 6 (lay 48 127) ?_ | refine GD.pK 6 (lay 48 127) ?_); (first | refine GD.p 7 (lay 48 255) ?_ | refine GD.no 7 (lay 48 255) ?_ | refine GD.pK 7 (lay 48 255) ?_); (first | refine GD.p 8 (lay 48 511) ?_ | refine GD.no 8 (lay 48 511) ?_ | refine GD.pK 8 (lay 48 511) ?_); (first | refine GD.p 9 (lay 48 1023) ?_ | refine GD.no 9 (lay 48 1023) ?_ | refine GD.pK 9 (lay 48 1023) ?_); (first | refine GD.p 10 (lay 48 2047) ?_ | refine GD.no 10 (lay 48 2047) ?_ | refine GD.pK 10 (lay 48 2047) ?_); (first | refine GD.p 11 (lay 48 4095) ?_ | refine GD.no 11 (lay 48 4095) ?_ | refine GD.pK 11 (lay 48 4095) ?_); (first | refine GD.p 12 (lay 48 8191) ?_ | refine GD.no 12 (lay 48 8191) ?_ | refine GD.pK 12 (lay 48 8191) ?_); (first | refine GD.p 13 (lay 48 16383) ?_ | refine GD.no 13 (lay 48 16383) ?_ | refine GD.pK 13 (lay 48 16383) ?_); (first | refine GD.p 14 (lay 48 32767) ?_ | refine GD.no 14 (lay 48 32767) ?_ | refine GD.pK 14 (lay 48 32767) ?_); (first | refine GD.p 15 (lay 48 65535) ?_ | refine GD.no 15 (lay 48 65535) ?_ | refine GD.pK 15 (lay 48 65535) ?_); (first | refine GD.p 16 (lay 48 131071) ?_ | refine GD.no 16 (lay 48 131071) ?_ | refine GD.pK 16 (lay 48 131071) ?_); (first | refine GD.p 17 (lay 48 262143) ?_ | refine GD.no 17 (lay 48 262143) ?_ | refine GD.pK 17 (lay 48 262143) ?_); (first | refine GD.p 18 (lay 48 524287) ?_ | refine GD.no 18 (lay 48 524287) ?_ | refine GD.pK 18 (lay 48 524287) ?_); (first | refine GD.p 19 (lay 48 1048575) ?_ | refine GD.no 19 (lay 48 1048575) ?_ | refine GD.pK 19 (lay 48 1048575) ?_); (first | refine GD.p 20 (lay 48 2097151) ?_ | refine GD.no 20 (lay 48 2097151) ?_ | refine GD.pK 20 (lay 48 2097151) ?_)
    refine GD.call 21 (lay 48 4194303) rfl rfl rfl (tsameR_calls p q s2 hp hq') .nil (fun v s3 h1' hq hle4 => ?_) (fun v s3 h1' hq => ?_)
    rotate_left
    · obtain ⟨e1, hs1, rfl⟩ := hq
      exact ⟨_, Split.refl _⟩
    obtain ⟨e1, hs1, rfl⟩ := hq
    rw [decide_eq_true hsame] at e1
    subst s3
    cases e1
    rw [List.nil_append]
    (first | refine GD.p 22 (lay 48 8388607) ?_ | refine GD.no 22 (lay 48 8388607) ?_ | refine GD.pK 22 (lay 48 8388607) ?_); (first | refine GD.p 23 (lay 48 16777215) ?_ | refine GD.no 23 (lay 48 16777215) ?_ | refine GD.pK 23 (lay 48 16777215) ?_); (first | refine GD.p 24 (lay 48 33554431) ?_ | refine GD.no 24 (lay 48 33554431) ?_ | refine GD.pK 24 (lay 48 33554431) ?_); (first | refine GD.p 25 (lay 48 67108863) ?_ | refine GD.no 25 (lay 48 67108863) ?_ | refine GD.pK 25 (lay 48 67108863) ?_); (first | refine GD.p 26 (lay 48 134217727) ?_ | refine GD.no 26 (lay 48 134217727) ?_ | refine GD.pK 26 (lay 48 134217727) ?_); (first | refine GD.p 27 (lay 48 268435455) ?_ | refine GD.no 27 (lay 48 268435455) ?_ | refine GD.pK 27 (lay 48 268435455) ?_); (first | refine GD.p 28 (lay 48 536870911) ?_ | refine GD.no 28 (lay 48 536870911) ?_ | refine GD.pK 28 (lay 48 536870911) ?_); (first | refine GD.p 29 (lay 48 1073741823) ?_ | refine GD.no 29 (lay 48 1073741823) ?_ | refine GD.pK 29 (lay 48 1073741823) ?_); (first | refine GD.p 31 (lay 48 3221225471) ?_ | refine GD.no 31 (lay 48 3221225471) ?_ | refine GD.pK 31 (lay 48 3221225471) ?_)
    refine GD.call 30 (lay 48 4294967295) rfl rfl rfl (tcheck_calls t s2 ht) .nil (fun v s3 h1' hq hle4 => ?_) (fun v s3 h1' hq => ?_)
    rotate_left
    · obtain ⟨x, e1, hx, hs1, rfl⟩ := hq
      exact ⟨_, Split.refl _⟩
    obtain ⟨x1, e1, hx1, hs1, rfl⟩ := hq
    subst s3
    cases e1
    rw [List.nil_append]
    refine GD.call 32 (lay 48 8589934591) rfl rfl rfl (tcheckR_calls t s2 ht) .nil (fun v s3 h1' hq hle4 => ?_) (fun v s3 h1' hq => ?_)
    rotate_left
    · obtain ⟨x, e1, hx, hs1, rfl⟩ := hq
      exact ⟨_, Split.refl _⟩
    obtain ⟨x2, e1, hx2, hs1, rfl⟩ := hq
    subst s3
    cases e1
    rw [List.nil_append]
    have hxx : x1 = x2 := by
      rcases hx1 with ⟨rfl, h1⟩ | ⟨rfl, h1⟩ <;> rcases hx2 with ⟨rfl, h2⟩ | ⟨rfl, h2⟩ <;> first | rfl | exact absurd h1 h2 | exact absurd h2 h1
    (first | refine GD.p 33 (lay 48 17179869183) ?_ | refine GD.no 33 (lay 48 17179869183) ?_ | refine GD.pK 33 (lay 48 17179869183) ?_); (first | refine GD.p 34 (lay 48 34359738367) ?_ | refine GD.no 34 (lay 48 34359738367) ?_ | refine GD.pK 34 (lay 48 34359738367) ?_); (first | refine GD.p 35 (lay 48 68719476735) ?_ | refine GD.no 35 (lay 48 68719476735) ?_ | refine GD.pK 35 (lay 48 68719476735) ?_); (first | refine GD.p 36 (lay 48 137438953471) ?_ | refine GD.no 36 (lay 48 137438953471) ?_ | refine GD.pK 36 (lay 48 137438953471) ?_); (first | refine GD.p 37 (lay 48 274877906943) ?_ | refine GD.no 37 (lay 48 274877906943) ?_ | refine GD.pK 37 (lay 48 274877906943) ?_); (first | refine GD.p 39 (lay 48 824633720831) ?_ | refine GD.no 39 (lay 48 824633720831) ?_ | refine GD.pK 39 (lay 48 824633720831) ?_); (first | refine GD.p 40 (lay 48 1924145348607) ?_ | refine GD.no 40 (lay 48 1924145348607) ?_ | refine GD.pK 40 (lay 48 1924145348607) ?_)
    refine GD.call 38 (lay 48 2199023255551) rfl rfl rfl (tsame_calls t u s2 ht hu) .nil (fun v s3 h1' hq hle4 => ?_) (fun v s3 h1' hq => ?_)
    rotate_left
    · obtain ⟨e1, hs1, rfl⟩ := hq
      exact ⟨_, Split.refl _⟩
    obtain ⟨e1, hs1, rfl⟩ := hq
    subst s3
    cases e1
    rw [List.nil_append]
    refine GD.call 41 (lay 48 4398046511103) rfl rfl rfl (tsameR_calls t u s2 ht hu) .nil (fun v s3 h1' hq hle4 => ?_) (fun v s3 h1' hq => ?_)
    rotate_left
    · obtain ⟨e1, hs1, rfl⟩ := hq
      exact ⟨_, Split.refl _⟩
    obtain ⟨e1, hs1, rfl⟩ := hq
    subst s3
    cases e1
    rw [List.nil_append]
    refine GD.p (he := PEv.eqBT rfl rfl rfl rfl) 42 (lay 48 8796093022207) ?_
    (first | refine GD.p 43 (lay 48 17592186044415) ?_ | refine GD.no 43 (lay 48 17592186044415) ?_ | refine GD.pK 43 (lay 48 17592186044415) ?_); (first | refine GD.p 44 (lay 48 35184372088831) ?_ | refine GD.no 44 (lay 48 35184372088831) ?_ | refine GD.pK 44 (lay 48 35184372088831) ?_)
    refine GD.call 45 (lay 48 70368744177663) rfl rfl rfl (wakes23_calls s2) .nil (fun v s3 h1' hq hle4 => ?_) (fun v s3 h1' hq => ?_)
    rotate_left
    · obtain ⟨e1, rfl⟩ := hq
      exact ⟨_, Split.refl _⟩
    obtain ⟨e1, rfl⟩ := hq
    cases e1
    rw [List.nil_append]
    (first | refine GD.p 46 (lay 48 140737488355327) ?_ | refine GD.no 46 (lay 48 140737488355327) ?_ | refine GD.pK 46 (lay 48 140737488355327) ?_); (first | refine GD.p 47 (lay 48 281474976710655) ?_ | refine GD.no 47 (lay 48 281474976710655) ?_ | refine GD.pK 47 (lay 48 281474976710655) ?_)
    refine GD.nil ?_
    repeat (first | (with_reducible first | refine GL.nil ?_ | refine G.region ?_ | refine G.seq ?_ | refine G.skip ?_ | refine G.block ?_ | refine G.inBlock ?_ | refine G.label ?_) | ((with_reducible show GL _ _ _ _ (_ :: _) _ _ _ _); first | refine GL.p ?_ | refine GL.pK ?_ | refine GL.store ?_ | refine GL.storeN ?_ | refine GL.boxA (fun g => ?_) | refine GL.box1 (fun g => ?_) | refine GL.alloc1 rfl (fun g => ?_) | refine GL.allocA (fun g => ?_) | refine GL.no ?_) | ((with_reducible show G _ _ _ (Item.code (Code.cond _ _ _) :: _) _ _ _); first | refine G.condT rfl ?_ | refine G.condF rfl ?_ | refine G.condYes rfl (by omega) ?_ | refine G.condNo rfl (by omega) ?_) | (with_reducible refine G.exit rfl ?_))
    refine G.sub .nil ?_
    refine G.ret1 ok rfl ?_
    exact ⟨rfl, rfl⟩
end Go.Proofs.Ytnndjobhcncanaa
