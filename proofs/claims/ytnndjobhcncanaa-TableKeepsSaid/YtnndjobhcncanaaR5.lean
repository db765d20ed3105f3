/- The readers: Number, Text, Flag, End, New. No statement of the seat is proved here. -/
import Derived.Test.YtnndjobhcncanaaR4
namespace Go.Proofs.Ytnndjobhcncanaa
open Go.RowKit
theorem vgetAux_le : ∀ (l : List UInt8) (j acc x q : Nat), vgetAux l j acc = some (x, q) → j < q ∧ q ≤ j + l.length
  | [], j, acc, x, q, h => by simp [vgetAux] at h
  | c :: r, j, acc, x, q, h => by
    rw [vgetAux] at h
    split at h
    · cases h
    split at h
    · split at h
      · simp only [Option.some.injEq, Prod.mk.injEq] at h
        simp only [List.length_cons]
        omega
      · cases h
    · have := vgetAux_le r (j + 1) _ x q h
      simp only [List.length_cons]
      omega
theorem numR_le {l : List UInt8} {i : Nat} {a b : Int} {x i1 : Nat} (h : numR l i a b = some (x, i1)) : i < i1 ∧ i1 ≤ l.length := by
  unfold numR at h
  split at h
  · rename_i x' q hv
    split at h
    · simp only [Option.some.injEq, Prod.mk.injEq] at h
      have := vgetAux_le _ _ _ _ _ hv
      rw [List.length_drop] at this
      omega
    · cases h
  · cases h
theorem zlen (z : ByteArray) : z.data.toList.length = z.size := by rw [Array.length_toList]; rfl
theorem try_bad (gR : Nat) (z : ByteArray) (i0 gid : Nat) (fs cs : List Value) (hh : List Ent) (s : Store) :
    Fn Try.prog 68 #[.pointer (some ⟨gR, 0, none⟩), .func (.func gid) fs.toArray cs.toArray] s (rdE gR z i0 true :: hh) (fun e s2 h2 => e = .returned (.int .i64 0) ∧ s2 = s ∧ h2 = rdE gR z i0 true :: hh) := by
  refine Fn.intro (args := [.pointer (some ⟨gR, 0, none⟩), .func (.func gid) fs.toArray cs.toArray]) Try.func68 rfl Try.ntmps68 (Nat.le_of_ble_eq_true rfl) (fun C ok hh' => ?_)
  repeat (first | (with_reducible first | refine GL.nil ?_ | refine G.region ?_ | refine G.seq ?_ | refine G.skip ?_ | refine G.block ?_ | refine G.inBlock ?_ | refine G.label ?_) | ((with_reducible show GL _ _ _ _ (_ :: _) _ _ _ _); first | refine GL.p ?_ | refine GL.pK ?_ | refine GL.store ?_ | refine GL.storeN ?_ | refine GL.boxA (fun g => ?_) | refine GL.box1 (fun g => ?_) | refine GL.alloc1 rfl (fun g => ?_) | refine GL.allocA (fun g => ?_) | refine GL.no ?_) | ((with_reducible show G _ _ _ (Item.code (Code.cond _ _ _) :: _) _ _ _); first | refine G.condT rfl ?_ | refine G.condF rfl ?_ | refine G.condYes rfl (by omega) ?_ | refine G.condNo rfl (by omega) ?_) | (with_reducible refine G.exit rfl ?_))
  rename_i g2
  refine G.retS (h' := rdE gR z i0 true :: hh) (v := .int .i64 0) ok (res1c rfl rfl rfl (List.Mem.head _)) (Split.pre [_, _] _) ?_
  exact ⟨rfl, rfl, rfl⟩
/-- What a number is read as, where the reader is behind it, whether it is stopped. -/
def rdNum (l : List UInt8) (i : Nat) (bad : Bool) (a b : Int) : Nat × Nat × Bool :=
  if bad then (0, i, true) else match numR l i a b with | some (x, i1) => (x, i1, false) | none => (0, i, true)
theorem rdNum_bad (l : List UInt8) (i : Nat) (a b : Int) : rdNum l i true a b = (0, i, true) := rfl
theorem rdNum_some {l : List UInt8} {i : Nat} {a b : Int} {x i1 : Nat} (h : numR l i a b = some (x, i1)) : rdNum l i false a b = (x, i1, false) := by simp [rdNum, h]
theorem rdNum_none {l : List UInt8} {i : Nat} {a b : Int} (h : numR l i a b = none) : rdNum l i false a b = (0, i, true) := by simp [rdNum, h]
set_option maxHeartbeats 8000000 in
theorem number1_calls (g gr gl gm : Nat) (z : ByteArray) (i0 : Nat) (a b : Int) (s : Store) (hi : i0 ≤ z.size) (hz : z.size ≤ 140737488351232) :
    Fn Try.prog 69 #[.pointer (some ⟨gr, 0, none⟩), .pointer (some ⟨gl, 0, none⟩), .pointer (some ⟨gm, 0, none⟩)] s (rdE g z i0 false :: [.blk gm (.cells [.int .i64 b].toArray 3 (0, 0)), .blk gl (.cells [.int .i64 a].toArray 3 (0, 0)), .blk gr (.cells [.pointer (some ⟨g, 0, none⟩)].toArray 75 (0, 0))])
      (fun e _ h2 => (∃ x, e = .returned (.int .i64 x) ∧ ∃ n i1 : Nat, numR z.data.toList i0 a b = some (n, i1) ∧ x = n ∧ ∃ q, Split [rdE g z i1 false] h2 q) ∨ (∃ j hx, e = .panicked chR ∧ h2 = rdE g z j false :: hx ∧ numR z.data.toList i0 a b = none)) := by
  refine Fn.intro (args := [.pointer (some ⟨gr, 0, none⟩), .pointer (some ⟨gl, 0, none⟩), .pointer (some ⟨gm, 0, none⟩)]) Try.func69 rfl Try.ntmps69 (Nat.le_of_ble_eq_true rfl) (fun C ok hh => ?_)
  repeat (first | (with_reducible first | refine GL.nil ?_ | refine G.region ?_ | refine G.seq ?_ | refine G.skip ?_ | refine G.block ?_ | refine G.inBlock ?_ | refine G.label ?_) | ((with_reducible show GL _ _ _ _ (_ :: _) _ _ _ _); first | refine GL.p ?_ | refine GL.pK ?_ | refine GL.store ?_ | refine GL.storeN ?_ | refine GL.boxA (fun g => ?_) | refine GL.box1 (fun g => ?_) | refine GL.alloc1 rfl (fun g => ?_) | refine GL.allocA (fun g => ?_) | refine GL.no ?_) | ((with_reducible show G _ _ _ (Item.code (Code.cond _ _ _) :: _) _ _ _); first | refine G.condT rfl ?_ | refine G.condF rfl ?_ | refine G.condYes rfl (by omega) ?_ | refine G.condNo rfl (by omega) ?_) | (with_reducible refine G.exit rfl ?_))
  refine GL.callP rfl rfl (number_calls g z i0 false a b s hi hz) (by (first | exact Split.refl _ | ((try dsimp only); repeat (first | exact Split.nil | (apply Split.cons; (repeat (first | exact Pick.head | apply Pick.tail))))))) (fun v s2 h2 hp hle => ?_) (fun ch s2 h2 hp hle => ?_) (fun s2 h2 hp => ?_)
  · rcases hp with ⟨x, i1, hn, e1, rfl⟩ | ⟨-, e1, -⟩
    · cases e1
      repeat (first | (with_reducible first | refine GL.nil ?_ | refine G.region ?_ | refine G.seq ?_ | refine G.skip ?_ | refine G.block ?_ | refine G.inBlock ?_ | refine G.label ?_) | ((with_reducible show GL _ _ _ _ (_ :: _) _ _ _ _); first | refine GL.p ?_ | refine GL.pK ?_ | refine GL.store ?_ | refine GL.storeN ?_ | refine GL.boxA (fun g => ?_) | refine GL.box1 (fun g => ?_) | refine GL.alloc1 rfl (fun g => ?_) | refine GL.allocA (fun g => ?_) | refine GL.no ?_) | ((with_reducible show G _ _ _ (Item.code (Code.cond _ _ _) :: _) _ _ _); first | refine G.condT rfl ?_ | refine G.condF rfl ?_ | refine G.condYes rfl (by omega) ?_ | refine G.condNo rfl (by omega) ?_) | (with_reducible refine G.exit rfl ?_))
      refine G.ret1 ok rfl ?_
      exact .inl ⟨_, rfl, x, i1, hn, rfl, _, .cons .head .nil⟩
    · cases e1
  · rcases hp with ⟨x, i1, hn, e1, rfl⟩ | ⟨hn, e1, rfl⟩
    · cases e1
    · cases e1
      exact GR.panic ok (.inr ⟨_, _, rfl, rfl, hn⟩)
  · rcases hp with ⟨x, i1, hn, e1, rfl⟩ | ⟨hn, e1, rfl⟩ <;> cases e1
set_option maxHeartbeats 8000000 in
theorem Number_calls (gR : Nat) (z : ByteArray) (i0 : Nat) (bad : Bool) (a b : Int) (s : Store) (hi : i0 ≤ z.size) (hz : z.size ≤ 140737488351232) :
    Fn Try.prog 63 #[.pointer (some ⟨gR, 0, none⟩), .int .i64 a, .int .i64 b] s [rdE gR z i0 bad] (fun e _ h2 => e = .returned (.int .i64 (rdNum z.data.toList i0 bad a b).1) ∧ h2 = [rdE gR z (rdNum z.data.toList i0 bad a b).2.1 (rdNum z.data.toList i0 bad a b).2.2]) := by
  refine Fn.intro (args := [.pointer (some ⟨gR, 0, none⟩), .int .i64 a, .int .i64 b]) Try.func63 rfl Try.ntmps63 (Nat.le_of_ble_eq_true rfl) (fun C ok hh => ?_)
  repeat (first | (with_reducible first | refine GL.nil ?_ | refine G.region ?_ | refine G.seq ?_ | refine G.skip ?_ | refine G.block ?_ | refine G.inBlock ?_ | refine G.label ?_) | ((with_reducible show GL _ _ _ _ (_ :: _) _ _ _ _); first | refine GL.p ?_ | refine GL.pK ?_ | refine GL.store ?_ | refine GL.storeN ?_ | refine GL.boxA (fun g => ?_) | refine GL.box1 (fun g => ?_) | refine GL.alloc1 rfl (fun g => ?_) | refine GL.allocA (fun g => ?_) | refine GL.no ?_) | ((with_reducible show G _ _ _ (Item.code (Code.cond _ _ _) :: _) _ _ _); first | refine G.condT rfl ?_ | refine G.condF rfl ?_ | refine G.condYes rfl (by omega) ?_ | refine G.condNo rfl (by omega) ?_) | (with_reducible refine G.exit rfl ?_))
  rename_i gr gl
  cases bad with
  | true =>
    refine GL.call rfl rfl (try_bad gR z i0 69 [] [.pointer (some ⟨gr, 0, none⟩), .pointer (some ⟨gl, 0, none⟩), .pointer (some ⟨g, 0, none⟩)] [] _) (by (first | exact Split.refl _ | ((try dsimp only); repeat (first | exact Split.nil | (apply Split.cons; (repeat (first | exact Pick.head | apply Pick.tail))))))) fun v s2 h2 hp hle => ?_
    obtain ⟨e1, rfl, rfl⟩ := hp
    cases e1
    repeat (first | (with_reducible first | refine GL.nil ?_ | refine G.region ?_ | refine G.seq ?_ | refine G.skip ?_ | refine G.block ?_ | refine G.inBlock ?_ | refine G.label ?_) | ((with_reducible show GL _ _ _ _ (_ :: _) _ _ _ _); first | refine GL.p ?_ | refine GL.pK ?_ | refine GL.store ?_ | refine GL.storeN ?_ | refine GL.boxA (fun g => ?_) | refine GL.box1 (fun g => ?_) | refine GL.alloc1 rfl (fun g => ?_) | refine GL.allocA (fun g => ?_) | refine GL.no ?_) | ((with_reducible show G _ _ _ (Item.code (Code.cond _ _ _) :: _) _ _ _); first | refine G.condT rfl ?_ | refine G.condF rfl ?_ | refine G.condYes rfl (by omega) ?_ | refine G.condNo rfl (by omega) ?_) | (with_reducible refine G.exit rfl ?_))
    refine G.sub (h' := [rdE gR z i0 true]) (.cons .head .nil) ?_
    refine G.ret1 ok rfl ?_
    exact ⟨rfl, rfl⟩
  | false =>
    refine GL.call rfl rfl (try_calls gR z i0 69 [] [.pointer (some ⟨gr, 0, none⟩), .pointer (some ⟨gl, 0, none⟩), .pointer (some ⟨g, 0, none⟩)] _ _ _ _ (fun s' _ => (number1_calls gR gr gl g z i0 a b s' hi hz).mono (fun e s2 h2 _ hp => hp.elim (fun ⟨x, e1, h5⟩ => .inl ⟨x, e1, h5⟩) (fun ⟨j, hx, e1, e2, h5⟩ => .inr ⟨j, hx, e1, e2, h5⟩)))) (by (first | exact Split.refl _ | ((try dsimp only); repeat (first | exact Split.nil | (apply Split.cons; (repeat (first | exact Pick.head | apply Pick.tail))))))) (fun v s2 h2 hp hle => ?_) (fun s2 h2 hp => ?_) (fun ch s2 h2 hp => ?_)
    · rcases hp with ⟨x, e1, n, i1, hn, rfl, q, hq⟩ | ⟨hx, e1, rfl, hn⟩
      · cases e1
        rw [rdNum_some hn] at *
        refine GL.sub (h' := [rdE gR z i1 false]) (r := q) (by rw [List.append_nil]; exact hq) ?_
        repeat (first | (with_reducible first | refine GL.nil ?_ | refine G.region ?_ | refine G.seq ?_ | refine G.skip ?_ | refine G.block ?_ | refine G.inBlock ?_ | refine G.label ?_) | ((with_reducible show GL _ _ _ _ (_ :: _) _ _ _ _); first | refine GL.p ?_ | refine GL.pK ?_ | refine GL.store ?_ | refine GL.storeN ?_ | refine GL.boxA (fun g => ?_) | refine GL.box1 (fun g => ?_) | refine GL.alloc1 rfl (fun g => ?_) | refine GL.allocA (fun g => ?_) | refine GL.no ?_) | ((with_reducible show G _ _ _ (Item.code (Code.cond _ _ _) :: _) _ _ _); first | refine G.condT rfl ?_ | refine G.condF rfl ?_ | refine G.condYes rfl (by omega) ?_ | refine G.condNo rfl (by omega) ?_) | (with_reducible refine G.exit rfl ?_))
        refine G.ret1 ok rfl ?_
        exact ⟨rfl, rfl⟩
      · cases e1
        rw [rdNum_none hn] at *
        repeat (first | (with_reducible first | refine GL.nil ?_ | refine G.region ?_ | refine G.seq ?_ | refine G.skip ?_ | refine G.block ?_ | refine G.inBlock ?_ | refine G.label ?_) | ((with_reducible show GL _ _ _ _ (_ :: _) _ _ _ _); first | refine GL.p ?_ | refine GL.pK ?_ | refine GL.store ?_ | refine GL.storeN ?_ | refine GL.boxA (fun g => ?_) | refine GL.box1 (fun g => ?_) | refine GL.alloc1 rfl (fun g => ?_) | refine GL.allocA (fun g => ?_) | refine GL.no ?_) | ((with_reducible show G _ _ _ (Item.code (Code.cond _ _ _) :: _) _ _ _); first | refine G.condT rfl ?_ | refine G.condF rfl ?_ | refine G.condYes rfl (by omega) ?_ | refine G.condNo rfl (by omega) ?_) | (with_reducible refine G.exit rfl ?_))
        refine G.sub (h' := [rdE gR z i0 true]) (.cons .head .nil) ?_
        refine G.ret1 ok rfl ?_
        exact ⟨rfl, rfl⟩
    · rcases hp with ⟨x, e1, _⟩ | ⟨hx, e1, _⟩ <;> cases e1
    · rcases hp with ⟨x, e1, _⟩ | ⟨hx, e1, _⟩ <;> cases e1
end Go.Proofs.Ytnndjobhcncanaa
