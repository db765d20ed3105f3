/- The document's answer to writing. No statement of the seat is proved here. -/
import Derived.Test.YtnndjobhcncanaaJ
namespace Go.Proofs.Ytnndjobhcncanaa
open Go.RowKit
section
variable {P : Program} {C : Ctx} {n : Nat} {k : List Item} {f : Fr} {s : Store} {h : List Ent} {ops : Array Oper} {os : List Oper} {o : Oper}
theorem PEv.rem128 {t t' : TypeId} {x : Operand} {m : Nat} (ho : o.op = .binOp .rem t x (.const (.int .i64 128)) t') (hx : f.val x = some (.int .i64 (m : Int))) : PEv P f s h o (.int .i64 ((m % 128 : Nat) : Int)) :=
  PEv.binI ho hx rfl fun w => by
    have : (m : Int).tmod 128 = ((m % 128 : Nat) : Int) := rfl
    simp [binOp, Op.intDiv, this]
theorem PEv.quo128 {t t' : TypeId} {x : Operand} {m : Nat} (ho : o.op = .binOp .quo t x (.const (.int .i64 128)) t') (hx : f.val x = some (.int .i64 (m : Int))) (hm : m ≤ 9223372036854775807) : PEv P f s h o (.int .i64 ((m / 128 : Nat) : Int)) :=
  PEv.binI ho hx rfl fun w => by
    have : (m : Int).tdiv 128 = ((m / 128 : Nat) : Int) := rfl
    have h2 := wrap_in (n := ((m / 128 : Nat) : Int)) (by omega) (by omega)
    simp only [binOp, Op.intDiv, this, h2]
    simp
theorem Cur.nilbuf {w : World} (m : Mem s [] w) (e : TypeId) (sz : Nat) : Cur w s [] s [.buf (.slice none 0 0) e sz 0 []] w := by
  have c0 := Cur.start m
  refine ⟨⟨m.im, fun x hx => ?_, by simp [keys, Ent.keys, Value.ownBlock], fun g hg => by simp [keys, Ent.keys, Value.ownBlock] at hg⟩, c0.ext, c0.le, c0.fs, fun g hg => by simp [keys, Ent.keys, Value.ownBlock] at hg⟩
  rw [List.mem_singleton] at hx
  subst hx
  exact ⟨by simp, .inl ⟨rfl, rfl⟩⟩
/-- A nil slice is owned for nothing. -/
theorem G.nilbuf (e : TypeId) (sz : Nat) {todo : List Item} (H : G P C n todo f s (.buf (.slice none 0 0) e sz 0 [] :: h)) : G P C n todo f s h := fun a w h1 h2 h3 h4 =>
  H a w h1 h2 h3 (Cur.step0 h4 (Cur.nilbuf (h4.mem.sub (List.nil_sublist _) (Store.le.refl _)) e sz))
theorem GL.nilbuf (e : TypeId) (sz : Nat) (H : GL P C n ops os k f s (.buf (.slice none 0 0) e sz 0 [] :: h)) : GL P C n ops os k f s h := fun is hi a w h1 h2 h3 h4 =>
  H is hi a w h1 h2 h3 (Cur.step0 h4 (Cur.nilbuf (h4.mem.sub (List.nil_sublist _) (Store.le.refl _)) e sz))
end
end Go.Proofs.Ytnndjobhcncanaa
