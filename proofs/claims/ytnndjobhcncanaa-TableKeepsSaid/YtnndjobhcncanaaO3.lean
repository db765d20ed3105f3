/- What comes in, opened: parts, tables. No statement of the seat is proved here. -/
import Derived.Test.YtnndjobhcncanaaU7
import Derived.Test.YtnndjobhcncanaaO
namespace Go.Proofs.Ytnndjobhcncanaa
open Go.RowKit
def TabD.cells (t : TabD) : List Value := [.int .i64 t.st, .int .i64 t.en, .slice t.h.A t.h.n t.h.c]
theorem fm_of {α : Type} {enc : α → List Value} {okA : α → Prop} : ∀ {css : List (List Value)} {l : List α}, All2 (fun cs a => cs = enc a ∧ okA a) css l → css.flatten = l.flatMap enc ∧ ∀ a ∈ l, okA a
  | [], [], _ => ⟨rfl, fun a h => by simp at h⟩
  | _ :: _, a :: l, ⟨⟨h1, h2⟩, h3⟩ => by
    subst h1
    obtain ⟨h4, h5⟩ := fm_of h3
    refine ⟨by rw [List.flatten_cons, List.flatMap_cons, h4], fun x hx => ?_⟩
    rcases List.mem_cons.1 hx with rfl | hx
    · exact h2
    · exact h5 x hx
  | [], _ :: _, h => h.elim
  | _ :: _, [], h => h.elim
section
variable {H : Type} {enc : TypeId × Value → H} {w : World}
theorem open_fm {P : Program} {α : Type} {en : α → List Value} {okA : α → Prop} {t e : TypeId} {sz fuel : Nat} {cs : List Value} {x : DataW H × List MemPlace} (ht : P.underlying t = some (.slice e)) (hc : P.cellsOf e = sz)
    (hel : ∀ n cs' y, cs'.length = sz → DataW.trod enc P w 0 (fun _ => true) true n e cs' = some y → ∃ a, cs' = en a ∧ okA a) (h : DataW.trod enc P w 0 (fun _ => true) true fuel t cs = some x) :
    ∃ (hd : Hd) (l : List α), cs = [.slice hd.A hd.n hd.c] ∧ Sl (hp w) hd.A hd.n hd.c sz (l.flatMap en) ∧ (∀ a ∈ l, okA a) ∧ l.length = hd.n := by
  obtain ⟨A, n, c, l, css, h1, h2, h3, h4⟩ := open_Sl (El := fun cs a => cs = en a ∧ okA a) ht hc hel h
  obtain ⟨h5, h6⟩ := fm_of h2
  rw [h5] at h4
  exact ⟨⟨A, n, c⟩, l, h1, h4, h6, h3⟩
set_option maxRecDepth 100000 in
theorem open_row {fuel : Nat} {cs : List Value} {x : DataW H × List MemPlace} (hl : cs.length = 5) (h : DataW.trod enc Try.prog w 0 (fun _ => true) true fuel 42 cs = some x) : ∃ r : RowD, cs = r.enc ∧ True := by
  match cs, hl with
  | [c0, c1, c2, c3, c4], _ =>
    obtain ⟨_, _, f0⟩ := fld (i := 0) inferInstance h (sz := 1) (by kernel_rfl) rfl
    obtain ⟨_, _, f1⟩ := fld (i := 1) inferInstance h (sz := 1) (by kernel_rfl) rfl
    obtain ⟨_, _, f2⟩ := fld (i := 2) inferInstance h (sz := 1) (by kernel_rfl) rfl
    obtain ⟨_, _, f3⟩ := fld (i := 3) inferInstance h (sz := 1) (by kernel_rfl) rfl
    obtain ⟨_, _, f4⟩ := fld (i := 4) inferInstance h (sz := 1) (by kernel_rfl) rfl
    obtain ⟨z0, e0, -, -⟩ := DataW.trod_int Try.underlying3 f0
    obtain ⟨z1, e1, -, -⟩ := DataW.trod_int Try.underlying3 f1
    obtain ⟨z2, e2, -, -⟩ := DataW.trod_int Try.underlying3 f2
    obtain ⟨z3, e3, -, -⟩ := DataW.trod_string Try.underlying9 f3
    obtain ⟨z4, e4, -, -⟩ := DataW.trod_string Try.underlying9 f4
    simp at e0 e1 e2 e3 e4
    subst e0 e1 e2 e3 e4
    exact ⟨⟨_, _, _, _, _⟩, rfl, trivial⟩
set_option maxRecDepth 100000 in
theorem open_bat {fuel : Nat} {cs : List Value} {x : DataW H × List MemPlace} (hl : cs.length = 5) (h : DataW.trod enc Try.prog w 0 (fun _ => true) true fuel 87 cs = some x) : ∃ b : BatD, cs = b.enc ∧ b.laid (hp w) := by
  obtain ⟨p, e, q, t, A, n, c, l, e0, hr, -⟩ := open_batch hl h
  exact ⟨⟨p, e, q, t, ⟨A, n, c⟩, l⟩, e0, hr⟩
set_option maxRecDepth 100000 in
theorem open_open {fuel : Nat} {cs : List Value} {x : DataW H × List MemPlace} (hl : cs.length = 3) (h : DataW.trod enc Try.prog w 0 (fun _ => true) true fuel 58 cs = some x) : ∃ o : OpenD, cs = o.enc ∧ o.laid (hp w) := by
  match cs, hl with
  | [c0, c1, c2], _ =>
    obtain ⟨_, _, f0⟩ := fld (i := 0) inferInstance h (sz := 1) (by kernel_rfl) rfl
    obtain ⟨_, _, f1⟩ := fld (i := 1) inferInstance h (sz := 1) (by kernel_rfl) rfl
    obtain ⟨_, _, f2⟩ := fld (i := 2) inferInstance h (sz := 1) (by kernel_rfl) rfl
    obtain ⟨z0, e0, -, -⟩ := DataW.trod_int Try.underlying3 f0
    obtain ⟨z1, e1, -, -⟩ := DataW.trod_int Try.underlying3 f1
    obtain ⟨hd, l, e2, h3, h4, -⟩ := open_fm (en := BatD.enc) (okA := fun b => b.laid (hp w)) Try.underlying56 (sz := 5) (by kernel_rfl) (fun n cs' y hl hy => open_bat hl hy) f2
    simp at e0 e1 e2
    subst e0 e1 e2
    exact ⟨⟨_, _, hd, l⟩, rfl, h3, h4⟩
set_option maxRecDepth 100000 in
theorem open_prod {fuel : Nat} {cs : List Value} {x : DataW H × List MemPlace} (hl : cs.length = 4) (h : DataW.trod enc Try.prog w 0 (fun _ => true) true fuel 63 cs = some x) : ∃ p : ProdD, cs = p.enc ∧ True := by
  match cs, hl with
  | [c0, c1, c2, c3], _ =>
    obtain ⟨_, _, f0⟩ := fld (i := 0) inferInstance h (sz := 1) (by kernel_rfl) rfl
    obtain ⟨_, _, f1⟩ := fld (i := 1) inferInstance h (sz := 1) (by kernel_rfl) rfl
    obtain ⟨_, _, f2⟩ := fld (i := 2) inferInstance h (sz := 1) (by kernel_rfl) rfl
    obtain ⟨_, _, f3⟩ := fld (i := 3) inferInstance h (sz := 1) (by kernel_rfl) rfl
    obtain ⟨z0, e0, -, -⟩ := DataW.trod_int Try.underlying3 f0
    obtain ⟨z1, e1, -, -⟩ := DataW.trod_int Try.underlying3 f1
    obtain ⟨z2, e2, -, -⟩ := DataW.trod_int Try.underlying3 f2
    obtain ⟨A, n, c, l, css, e3, -⟩ := open_Sl (El := fun _ (_ : Unit) => True) Try.underlying61 (sz := 3) (by kernel_rfl) (fun _ _ _ _ _ => ⟨(), trivial⟩) f3
    simp at e0 e1 e2 e3
    subst e0 e1 e2 e3
    exact ⟨⟨_, _, _, ⟨A, n, c⟩⟩, rfl, trivial⟩
set_option maxRecDepth 100000 in
theorem open_part {fuel : Nat} {cs : List Value} {x : DataW H × List MemPlace} (hl : cs.length = 5) (h : DataW.trod enc Try.prog w 0 (fun _ => true) true fuel 26 cs = some x) : ∃ p : PartD, cs = p.cells ∧ p.laid (hp w) := by
  match cs, hl with
  | [c0, c1, c2, c3, c4], _ =>
    obtain ⟨_, _, f0⟩ := fld (i := 0) inferInstance h (sz := 1) (by kernel_rfl) rfl
    obtain ⟨_, _, f1⟩ := fld (i := 1) inferInstance h (sz := 1) (by kernel_rfl) rfl
    obtain ⟨_, _, f2⟩ := fld (i := 2) inferInstance h (sz := 1) (by kernel_rfl) rfl
    obtain ⟨_, _, f3⟩ := fld (i := 3) inferInstance h (sz := 1) (by kernel_rfl) rfl
    obtain ⟨_, _, f4⟩ := fld (i := 4) inferInstance h (sz := 1) (by kernel_rfl) rfl
    obtain ⟨z0, e0, -, -⟩ := DataW.trod_int Try.underlying3 f0
    obtain ⟨z1, e1, -, -⟩ := DataW.trod_int Try.underlying3 f1
    obtain ⟨hr, rows, e2, g2, -, -⟩ := open_fm (en := RowD.enc) (okA := fun _ => True) Try.underlying22 (sz := 5) (by kernel_rfl) (fun n cs' y hl hy => open_row hl hy) f2
    obtain ⟨ho, opens, e3, g3, g3', -⟩ := open_fm (en := OpenD.enc) (okA := fun o => o.laid (hp w)) Try.underlying23 (sz := 3) (by kernel_rfl) (fun n cs' y hl hy => open_open hl hy) f3
    obtain ⟨hq, prods, e4, g4, -, -⟩ := open_fm (en := ProdD.enc) (okA := fun _ => True) Try.underlying24 (sz := 4) (by kernel_rfl) (fun n cs' y hl hy => open_prod hl hy) f4
    simp at e0 e1 e2 e3 e4
    subst e0 e1 e2 e3 e4
    exact ⟨⟨_, _, hr, ho, hq, rows, opens, prods⟩, rfl, g2, g3, g3', g4⟩
theorem open_ints {fuel : Nat} {cs : List Value} {x : DataW H × List MemPlace} (h : DataW.trod enc Try.prog w 0 (fun _ => true) true fuel 31 cs = some x) : ∃ (hd : Hd) (l : List Int), cs = [.slice hd.A hd.n hd.c] ∧ Is (hp w) hd.A hd.n hd.c l := by
  obtain ⟨hd, l, h1, h2, -, -⟩ := open_fm (en := fun x : Int => [.int .i64 x]) (okA := fun _ => True) Try.underlying31 (sz := 1) (by kernel_rfl) (fun n cs' y hl hy => by
    obtain ⟨z, e0, -, -⟩ := DataW.trod_int Try.underlying3 hy
    exact ⟨z, e0, trivial⟩) h
  exact ⟨hd, l, h1, h2⟩
set_option maxRecDepth 100000 in
theorem open_table {fuel : Nat} {cs : List Value} {x : DataW H × List MemPlace} (hl : cs.length = 3) (h : DataW.trod enc Try.prog w 0 (fun _ => true) true fuel 33 cs = some x) : ∃ t : TabD, cs = [.int .i64 t.st, .int .i64 t.en, .slice t.h.A t.h.n t.h.c] ∧ t.laid (hp w) := by
  match cs, hl with
  | [c0, c1, c2], _ =>
    obtain ⟨_, _, f0⟩ := fld (i := 0) inferInstance h (sz := 1) (by kernel_rfl) rfl
    obtain ⟨_, _, f1⟩ := fld (i := 1) inferInstance h (sz := 1) (by kernel_rfl) rfl
    obtain ⟨_, _, f2⟩ := fld (i := 2) inferInstance h (sz := 1) (by kernel_rfl) rfl
    obtain ⟨z0, e0, -, -⟩ := DataW.trod_int Try.underlying3 f0
    obtain ⟨z1, e1, -, -⟩ := DataW.trod_int Try.underlying3 f1
    obtain ⟨hd, l, e2, h3⟩ := open_ints f2
    simp at e0 e1 e2
    subst e0 e1 e2
    exact ⟨⟨_, _, hd, l⟩, rfl, h3⟩
end
end Go.Proofs.Ytnndjobhcncanaa
