/- The readers: Get, number. No statement of the seat is proved here. -/
import Derived.Test.YtnndjobhcncanaaR
import Derived.Test.YtnndjobhcncanaaJ
namespace Go.Proofs.Ytnndjobhcncanaa
open Go.RowKit
set_option maxHeartbeats 8000000 in
theorem get_calls (A : Option Addr) (n c i0 : Nat) (l : List UInt8) (s : Store) (hb : Bs s A n c l) (hi : i0 ≤ n) (hn : n ≤ 140737488351232) :
    Fn Try.prog 72 #[.slice A n c, .int .i64 i0] s [] (fun e s' h' => (∃ x q : Nat, vget (l.drop i0) = some (x, q) ∧ e = .returned (.tuple #[.int .i64 x, .int .i64 (i0 + q : Nat), .int .i64 0]) ∧ s' = s ∧ h' = []) ∨ (vget (l.drop i0) = none ∧ e = .returned (.tuple #[.int .i64 0, .int .i64 0, .int .i64 70]) ∧ s' = s ∧ h' = [])) := by
  have hcap := hb.cap
  refine Fn.intro (args := [.slice A n c, .int .i64 i0]) Try.func72 rfl Try.ntmps72 (Nat.le_of_ble_eq_true rfl) (fun C ok hh => ?_)
  repeat (first | (with_reducible first | refine GL.nil ?_ | refine G.region ?_ | refine G.seq ?_ | refine G.skip ?_ | refine G.block ?_ | refine G.inBlock ?_ | refine G.label ?_) | ((with_reducible show GL _ _ _ _ (_ :: _) _ _ _ _); first | refine GL.p ?_ | refine GL.pK ?_ | refine GL.store ?_ | refine GL.storeN ?_ | refine GL.boxA (fun g => ?_) | refine GL.box1 (fun g => ?_) | refine GL.alloc1 rfl (fun g => ?_) | refine GL.allocA (fun g => ?_) | refine GL.no ?_) | ((with_reducible show G _ _ _ (Item.code (Code.cond _ _ _) :: _) _ _ _); first | refine G.condT rfl ?_ | refine G.condF rfl ?_ | refine G.condYes rfl (by omega) ?_ | refine G.condNo rfl (by omega) ?_) | (with_reducible refine G.exit rfl ?_))
  refine GL.call rfl rfl (next_calls g A n c i0 l s hb hi hn) (by (first | exact Split.refl _ | ((try dsimp only); repeat (first | exact Split.nil | (apply Split.cons; (repeat (first | exact Pick.head | apply Pick.tail))))))) fun v s1 h1 hp hle => ?_
  obtain ⟨v', yes, i1, e1, hs1, rfl, hyes, hno⟩ := hp
  subst s1
  cases e1
  cases hv : vget (l.drop i0) with
  | none =>
    obtain rfl := hno hv
    repeat (first | (with_reducible first | refine GL.nil ?_ | refine G.region ?_ | refine G.seq ?_ | refine G.skip ?_ | refine G.block ?_ | refine G.inBlock ?_ | refine G.label ?_) | ((with_reducible show GL _ _ _ _ (_ :: _) _ _ _ _); first | refine GL.p ?_ | refine GL.pK ?_ | refine GL.store ?_ | refine GL.storeN ?_ | refine GL.boxA (fun g => ?_) | refine GL.box1 (fun g => ?_) | refine GL.alloc1 rfl (fun g => ?_) | refine GL.allocA (fun g => ?_) | refine GL.no ?_) | ((with_reducible show G _ _ _ (Item.code (Code.cond _ _ _) :: _) _ _ _); first | refine G.condT rfl ?_ | refine G.condF rfl ?_ | refine G.condYes rfl (by omega) ?_ | refine G.condNo rfl (by omega) ?_) | (with_reducible refine G.exit rfl ?_))
    refine G.sub .nil ?_
    refine G.ret3 ok rfl ?_
    exact .inr ⟨hv, rfl, rfl, rfl⟩
  | some xq =>
    obtain ⟨x, q⟩ := xq
    obtain ⟨rfl, rfl, rfl⟩ := hyes x q hv
    repeat (first | (with_reducible first | refine GL.nil ?_ | refine G.region ?_ | refine G.seq ?_ | refine G.skip ?_ | refine G.block ?_ | refine G.inBlock ?_ | refine G.label ?_) | ((with_reducible show GL _ _ _ _ (_ :: _) _ _ _ _); first | refine GL.p ?_ | refine GL.pK ?_ | refine GL.store ?_ | refine GL.storeN ?_ | refine GL.boxA (fun g => ?_) | refine GL.box1 (fun g => ?_) | refine GL.alloc1 rfl (fun g => ?_) | refine GL.allocA (fun g => ?_) | refine GL.no ?_) | ((with_reducible show G _ _ _ (Item.code (Code.cond _ _ _) :: _) _ _ _); first | refine G.condT rfl ?_ | refine G.condF rfl ?_ | refine G.condYes rfl (by omega) ?_ | refine G.condNo rfl (by omega) ?_) | (with_reducible refine G.exit rfl ?_))
    refine G.draw0 (m := 8) (lay 8 0) follows_mixed ?_
    (first | refine GD.p 0 (lay 8 1) ?_ | refine GD.no 0 (lay 8 1) ?_); (first | refine GD.p 1 (lay 8 3) ?_ | refine GD.no 1 (lay 8 3) ?_); (first | refine GD.p 2 (lay 8 7) ?_ | refine GD.no 2 (lay 8 7) ?_); (first | refine GD.p 3 (lay 8 15) ?_ | refine GD.no 3 (lay 8 15) ?_); (first | refine GD.p 4 (lay 8 31) ?_ | refine GD.no 4 (lay 8 31) ?_); (first | refine GD.p 5 (lay 8 63) ?_ | refine GD.no 5 (lay 8 63) ?_); (first | refine GD.p 6 (lay 8 127) ?_ | refine GD.no 6 (lay 8 127) ?_); (first | refine GD.p 7 (lay 8 255) ?_ | refine GD.no 7 (lay 8 255) ?_)
    refine GD.nil ?_
    repeat (first | (with_reducible first | refine GL.nil ?_ | refine G.region ?_ | refine G.seq ?_ | refine G.skip ?_ | refine G.block ?_ | refine G.inBlock ?_ | refine G.label ?_) | ((with_reducible show GL _ _ _ _ (_ :: _) _ _ _ _); first | refine GL.p ?_ | refine GL.pK ?_ | refine GL.store ?_ | refine GL.storeN ?_ | refine GL.boxA (fun g => ?_) | refine GL.box1 (fun g => ?_) | refine GL.alloc1 rfl (fun g => ?_) | refine GL.allocA (fun g => ?_) | refine GL.no ?_) | ((with_reducible show G _ _ _ (Item.code (Code.cond _ _ _) :: _) _ _ _); first | refine G.condT rfl ?_ | refine G.condF rfl ?_ | refine G.condYes rfl (by omega) ?_ | refine G.condNo rfl (by omega) ?_) | (with_reducible refine G.exit rfl ?_))
    refine G.sub .nil ?_
    refine G.ret3 ok rfl ?_
    exact .inl ⟨x, q, hv, rfl, rfl, rfl⟩
/-- '[]byte(z)', where nothing else may come up. -/
theorem GD.bytes {P : Program} {C : Ctx} {n : Nat} {k : List Item} {f : Fr} {s : Store} {h : List Ent} {ops : Array Oper} {o : Oper} {sS : Store} {hS : List Ent} {ds : List Nat} {m : Nat} {l : Array Bool} (i : Nat) (l' : Array Bool) {t t' e : TypeId} {x : Operand} {z : ByteArray} {d : Tmp} [ut : UT P t .string] [ut' : UT P t' (.slice e)] [ue : UT P e (.int .u8)]
    (hi : ops[i]? = some o) (ho : o.op = .convert t t' x) (hx : f.val x = some (.string z)) (hz : z.size ≤ 140737488355328) (H : ∀ A c s', s.le s' → Bs s' A z.size c z.data.toList → GD P C n ops sS hS ds m l' k ((d, .slice A z.size c) :: f) s' h) {r : List Ent} (hkeep : Split hS h r := by (first | exact Split.refl _ | ((try dsimp only); repeat (first | exact Split.nil | (apply Split.cons; (repeat (first | exact Pick.head | apply Pick.tail))))))) (hds : i ∉ ds := by simp)
    (hd : o.dst = some d := by exact rfl) (hw : Wants ops f o true := by first | exact Wants.all rfl | exact Wants.at_ rfl rfl rfl rfl) (hcc : Go.Proofs.YtnndjobhcncanaaW.PrintLast.readyB .any ops l l' i = true := by kernel_rfl) (hle : sS.le s := by first | exact Store.le.refl _ | assumption) (hn : Nat.blt d n = true := by exact rfl) : GD P C n ops sS hS ds (m + 1) l k f s h :=
  GD.eff l' hi hd hcc hds hw (Eff.bytesOf ho hx hz) hle hn (by rintro v s' h' ⟨A, c, e, rfl, hs⟩; exact ⟨r, hkeep⟩) (by rintro v s' h' ⟨A, c, e, rfl, hs⟩ hle; cases e; exact H A c s' hle hs) (by rintro ch s' h' ⟨A, c, e, _⟩; cases e)
/-- A fields.Reader in memory. -/
abbrev rdE (g : Nat) (z : ByteArray) (i : Nat) (bad : Bool) : Ent := .blk g (.cells [.string z, .int .i64 i, .bool bad].toArray 99 (0, 0))
/-- What a number is read as, and where the reader is behind it. -/
def numR (l : List UInt8) (i : Nat) (a b : Int) : Option (Nat × Nat) :=
  match vget (l.drop i) with
  | some (x, q) => if a ≤ x ∧ x ≤ b then some (x, i + q) else none
  | none => none
/-- The panic of a reader. -/
abbrev chR : List PanicEntry := [{ v := .iface 27 (.int .i64 70), recovered := false }]
set_option maxHeartbeats 8000000 in
theorem number_calls (g : Nat) (z : ByteArray) (i0 : Nat) (bad : Bool) (a b : Int) (s : Store) (hi : i0 ≤ z.size) (hz : z.size ≤ 140737488351232) :
    Fn Try.prog 70 #[.pointer (some ⟨g, 0, none⟩), .int .i64 a, .int .i64 b] s [rdE g z i0 bad] (fun e _ h' => (∃ x i1 : Nat, numR z.data.toList i0 a b = some (x, i1) ∧ e = .returned (.int .i64 x) ∧ h' = [rdE g z i1 bad]) ∨ (numR z.data.toList i0 a b = none ∧ e = .panicked chR ∧ h' = [rdE g z i0 bad])) := by
  refine Fn.intro (args := [.pointer (some ⟨g, 0, none⟩), .int .i64 a, .int .i64 b]) Try.func70 rfl Try.ntmps70 (Nat.le_of_ble_eq_true rfl) (fun C ok hh => ?_)
  repeat (first | (with_reducible first | refine GL.nil ?_ | refine G.region ?_ | refine G.seq ?_ | refine G.skip ?_ | refine G.block ?_ | refine G.inBlock ?_ | refine G.label ?_) | ((with_reducible show GL _ _ _ _ (_ :: _) _ _ _ _); first | refine GL.p ?_ | refine GL.pK ?_ | refine GL.store ?_ | refine GL.storeN ?_ | refine GL.boxA (fun g => ?_) | refine GL.box1 (fun g => ?_) | refine GL.alloc1 rfl (fun g => ?_) | refine GL.allocA (fun g => ?_) | refine GL.no ?_) | ((with_reducible show G _ _ _ (Item.code (Code.cond _ _ _) :: _) _ _ _); first | refine G.condT rfl ?_ | refine G.condF rfl ?_ | refine G.condYes rfl (by omega) ?_ | refine G.condNo rfl (by omega) ?_) | (with_reducible refine G.exit rfl ?_))
  refine G.draw0 (m := 17) (lay 17 0) follows_mixed ?_
  (first | refine GD.p 0 (lay 17 1) ?_ | refine GD.no 0 (lay 17 1) ?_ | refine GD.pK 0 (lay 17 1) ?_); (first | refine GD.p 1 (lay 17 3) ?_ | refine GD.no 1 (lay 17 3) ?_ | refine GD.pK 1 (lay 17 3) ?_); (first | refine GD.p 2 (lay 17 7) ?_ | refine GD.no 2 (lay 17 7) ?_ | refine GD.pK 2 (lay 17 7) ?_); (first | refine GD.p 3 (lay 17 15) ?_ | refine GD.no 3 (lay 17 15) ?_ | refine GD.pK 3 (lay 17 15) ?_); (first | refine GD.p 5 (lay 17 47) ?_ | refine GD.no 5 (lay 17 47) ?_ | refine GD.pK 5 (lay 17 47) ?_); (first | refine GD.p 6 (lay 17 111) ?_ | refine GD.no 6 (lay 17 111) ?_ | refine GD.pK 6 (lay 17 111) ?_); (first | refine GD.p 7 (lay 17 239) ?_ | refine GD.no 7 (lay 17 239) ?_ | refine GD.pK 7 (lay 17 239) ?_); (first | refine GD.p 8 (lay 17 495) ?_ | refine GD.no 8 (lay 17 495) ?_ | refine GD.pK 8 (lay 17 495) ?_)
  refine GD.bytes 4 (lay 17 511) rfl rfl rfl (by omega) fun A c s1 hle1 hs1 => ?_
  refine GD.call 9 (lay 17 1023) rfl rfl rfl (get_calls A z.size c i0 _ _ hs1 hi hz) .nil (fun v s2 h2 hp hle2 => ?_) (fun v s2 h2 hp => ?_)
  rotate_left
  · rcases hp with ⟨x, q, -, -, -, rfl⟩ | ⟨-, -, -, rfl⟩ <;> exact ⟨_, Split.refl _⟩
  rcases hp with ⟨x, q, hv, e1, h3, rfl⟩ | ⟨hv, e1, h3, rfl⟩
  · subst s2
    cases e1
    rw [List.nil_append]
    have hle3 := hle1.trans hle2
    (first | refine GD.p 10 (lay 17 2047) ?_ | refine GD.no 10 (lay 17 2047) ?_ | refine GD.pK 10 (lay 17 2047) ?_); (first | refine GD.p 11 (lay 17 4095) ?_ | refine GD.no 11 (lay 17 4095) ?_ | refine GD.pK 11 (lay 17 4095) ?_); (first | refine GD.p 12 (lay 17 8191) ?_ | refine GD.no 12 (lay 17 8191) ?_ | refine GD.pK 12 (lay 17 8191) ?_); (first | refine GD.p 13 (lay 17 16383) ?_ | refine GD.no 13 (lay 17 16383) ?_ | refine GD.pK 13 (lay 17 16383) ?_); (first | refine GD.p 14 (lay 17 32767) ?_ | refine GD.no 14 (lay 17 32767) ?_ | refine GD.pK 14 (lay 17 32767) ?_); (first | refine GD.p 15 (lay 17 65535) ?_ | refine GD.no 15 (lay 17 65535) ?_ | refine GD.pK 15 (lay 17 65535) ?_); (first | refine GD.p 16 (lay 17 131071) ?_ | refine GD.no 16 (lay 17 131071) ?_ | refine GD.pK 16 (lay 17 131071) ?_)
    refine GD.nil ?_
    by_cases ha : a ≤ x
    · by_cases hb : (x : Int) ≤ b
      · repeat (first | (with_reducible first | refine GL.nil ?_ | refine G.region ?_ | refine G.seq ?_ | refine G.skip ?_ | refine G.block ?_ | refine G.inBlock ?_ | refine G.label ?_) | ((with_reducible show GL _ _ _ _ (_ :: _) _ _ _ _); first | refine GL.p ?_ | refine GL.pK ?_ | refine GL.store ?_ | refine GL.storeN ?_ | refine GL.boxA (fun g => ?_) | refine GL.box1 (fun g => ?_) | refine GL.alloc1 rfl (fun g => ?_) | refine GL.allocA (fun g => ?_) | refine GL.no ?_) | ((with_reducible show G _ _ _ (Item.code (Code.cond _ _ _) :: _) _ _ _); first | refine G.condT rfl ?_ | refine G.condF rfl ?_ | refine G.condYes rfl (by omega) ?_ | refine G.condNo rfl (by omega) ?_) | (with_reducible refine G.exit rfl ?_))
        refine G.ret1 ok rfl ?_
        exact .inl ⟨x, i0 + q, by rw [numR, hv]; exact if_pos ⟨ha, hb⟩, rfl, rfl⟩
      · repeat (first | (with_reducible first | refine GL.nil ?_ | refine G.region ?_ | refine G.seq ?_ | refine G.skip ?_ | refine G.block ?_ | refine G.inBlock ?_ | refine G.label ?_) | ((with_reducible show GL _ _ _ _ (_ :: _) _ _ _ _); first | refine GL.p ?_ | refine GL.pK ?_ | refine GL.store ?_ | refine GL.storeN ?_ | refine GL.boxA (fun g => ?_) | refine GL.box1 (fun g => ?_) | refine GL.alloc1 rfl (fun g => ?_) | refine GL.allocA (fun g => ?_) | refine GL.no ?_) | ((with_reducible show G _ _ _ (Item.code (Code.cond _ _ _) :: _) _ _ _); first | refine G.condT rfl ?_ | refine G.condF rfl ?_ | refine G.condYes rfl (by omega) ?_ | refine G.condNo rfl (by omega) ?_) | (with_reducible refine G.exit rfl ?_))
        refine GL.panic rfl rfl (GR.panic ok ?_)
        exact .inr ⟨by rw [numR, hv]; exact if_neg (fun h => hb h.2), rfl, rfl⟩
    · repeat (first | (with_reducible first | refine GL.nil ?_ | refine G.region ?_ | refine G.seq ?_ | refine G.skip ?_ | refine G.block ?_ | refine G.inBlock ?_ | refine G.label ?_) | ((with_reducible show GL _ _ _ _ (_ :: _) _ _ _ _); first | refine GL.p ?_ | refine GL.pK ?_ | refine GL.store ?_ | refine GL.storeN ?_ | refine GL.boxA (fun g => ?_) | refine GL.box1 (fun g => ?_) | refine GL.alloc1 rfl (fun g => ?_) | refine GL.allocA (fun g => ?_) | refine GL.no ?_) | ((with_reducible show G _ _ _ (Item.code (Code.cond _ _ _) :: _) _ _ _); first | refine G.condT rfl ?_ | refine G.condF rfl ?_ | refine G.condYes rfl (by omega) ?_ | refine G.condNo rfl (by omega) ?_) | (with_reducible refine G.exit rfl ?_))
      refine GL.panic rfl rfl (GR.panic ok ?_)
      exact .inr ⟨by rw [numR, hv]; exact if_neg (fun h => ha h.1), rfl, rfl⟩
  · subst s2
    cases e1
    rw [List.nil_append]
    have hle3 := hle1.trans hle2
    (first | refine GD.p 10 (lay 17 2047) ?_ | refine GD.no 10 (lay 17 2047) ?_ | refine GD.pK 10 (lay 17 2047) ?_); (first | refine GD.p 11 (lay 17 4095) ?_ | refine GD.no 11 (lay 17 4095) ?_ | refine GD.pK 11 (lay 17 4095) ?_); (first | refine GD.p 12 (lay 17 8191) ?_ | refine GD.no 12 (lay 17 8191) ?_ | refine GD.pK 12 (lay 17 8191) ?_); (first | refine GD.p 13 (lay 17 16383) ?_ | refine GD.no 13 (lay 17 16383) ?_ | refine GD.pK 13 (lay 17 16383) ?_); (first | refine GD.p 14 (lay 17 32767) ?_ | refine GD.no 14 (lay 17 32767) ?_ | refine GD.pK 14 (lay 17 32767) ?_); (first | refine GD.p 15 (lay 17 65535) ?_ | refine GD.no 15 (lay 17 65535) ?_ | refine GD.pK 15 (lay 17 65535) ?_); (first | refine GD.p 16 (lay 17 131071) ?_ | refine GD.no 16 (lay 17 131071) ?_ | refine GD.pK 16 (lay 17 131071) ?_)
    refine GD.nil ?_
    repeat (first | (with_reducible first | refine GL.nil ?_ | refine G.region ?_ | refine G.seq ?_ | refine G.skip ?_ | refine G.block ?_ | refine G.inBlock ?_ | refine G.label ?_) | ((with_reducible show GL _ _ _ _ (_ :: _) _ _ _ _); first | refine GL.p ?_ | refine GL.pK ?_ | refine GL.store ?_ | refine GL.storeN ?_ | refine GL.boxA (fun g => ?_) | refine GL.box1 (fun g => ?_) | refine GL.alloc1 rfl (fun g => ?_) | refine GL.allocA (fun g => ?_) | refine GL.no ?_) | ((with_reducible show G _ _ _ (Item.code (Code.cond _ _ _) :: _) _ _ _); first | refine G.condT rfl ?_ | refine G.condF rfl ?_ | refine G.condYes rfl (by omega) ?_ | refine G.condNo rfl (by omega) ?_) | (with_reducible refine G.exit rfl ?_))
    refine GL.panic rfl rfl (GR.panic ok ?_)
    exact .inr ⟨by rw [numR, hv], rfl, rfl⟩
end Go.Proofs.Ytnndjobhcncanaa
