/- What comes in, opened. No statement of the seat is proved here. -/
import Derived.Test.YtnndjobhcncanaaS0
import Derived.ProofKit
import Derived.Deep.Slices
namespace Go.Proofs.Ytnndjobhcncanaa
open Go.RowKit
/-- All that lies in a world, as what never changes. -/
def hp (w : World) : Store := fun g => w.heap[g]?
theorem Mem.all (w : World) : Mem (hp w) [] w := ⟨fun _ _ h => h, fun _ h => by simp at h, by simp [keys], fun _ h => by simp [keys] at h⟩
theorem cellS_of {w : World} {a : Addr} {v : Value} (h : w.cell? a = some v) : cellS (hp w) a = some v := h
def All2 {α β : Type} (R : β → α → Prop) : List β → List α → Prop
  | [], [] => True
  | b :: bs, a :: us => R b a ∧ All2 R bs us
  | _, _ => False
theorem All2.snoc {α β : Type} {R : β → α → Prop} {b : β} {a : α} (h : R b a) : ∀ {bs : List β} {us : List α}, All2 R bs us → All2 R (bs ++ [b]) (us ++ [a])
  | [], [], _ => ⟨h, trivial⟩
  | _ :: _, _ :: _, ⟨h1, h2⟩ => ⟨h1, All2.snoc h h2⟩
  | [], _ :: _, h1 => h1.elim
  | _ :: _, [], h1 => h1.elim
theorem All2.len {α β : Type} {R : β → α → Prop} : ∀ {bs : List β} {us : List α}, All2 R bs us → bs.length = us.length
  | [], [], _ => rfl
  | _ :: _, _ :: _, ⟨_, h2⟩ => by simp [All2.len h2]
  | [], _ :: _, h1 => h1.elim
  | _ :: _, [], h1 => h1.elim
section
variable {H : Type} {enc : TypeId × Value → H} {P : Program} {w : World}
/-- A slice whose elements are told by El. -/
theorem open_Sl {α : Type} {El : List Value → α → Prop} {t e : TypeId} {sz fuel : Nat} {cs : List Value} {x : DataW H × List MemPlace} (ht : P.underlying t = some (.slice e)) (hc : P.cellsOf e = sz)
    (hel : ∀ n cs' y, cs'.length = sz → DataW.trod enc P w 0 (fun _ => true) true n e cs' = some y → ∃ a, El cs' a) (h : DataW.trod enc P w 0 (fun _ => true) true fuel t cs = some x) :
    ∃ (A : Option Addr) (n c : Nat) (l : List α) (css : List (List Value)), cs = [.slice A n c] ∧ All2 El css l ∧ l.length = n ∧ Sl (hp w) A n c sz css.flatten := by
  rcases _root_.Go.Deep.open_slice ht h with ⟨rfl, _⟩ | ⟨a, len, cap, m, n, D, Pl, rfl, hb, hl, hm, hmm, _, hx⟩
  · exact ⟨none, 0, 0, [], [], rfl, trivial, rfl, Sl.nil _ _⟩
  rw [hc] at hx
  have hlm : len ≤ m := by rw [hmm]; simpa using hl
  have key : ∀ k, k ≤ len → ∃ (l : List α) (css : List (List Value)), All2 El css l ∧ l.length = k ∧ css.flatten.length = k * sz ∧ ∀ j u, css.flatten[j]? = some u → w.cell? (a.add j) = some u := by
    intro k
    induction k with
    | zero => exact fun _ => ⟨[], [], trivial, rfl, by simp, fun j u h => by simp at h⟩
    | succ k ih =>
      intro hk
      obtain ⟨l, css, h1, h2, h3, h4⟩ := ih (by omega)
      obtain ⟨cs', h5, h6⟩ := hx k (by omega)
      obtain ⟨_, h7, h8⟩ := World.cells?_some h5
      obtain ⟨b, hb'⟩ := hel _ _ _ h7 h6
      refine ⟨l ++ [b], css ++ [cs'], All2.snoc hb' h1, by simp [h2], ?_, fun j u hj => ?_⟩
      · rw [List.flatten_append, List.length_append, h3]
        simp [h7]
        rw [Nat.succ_mul]
      · rw [List.flatten_append] at hj
        simp only [List.flatten_cons, List.flatten_nil, List.append_nil] at hj
        by_cases hlt : j < css.flatten.length
        · rw [List.getElem?_append_left hlt] at hj
          exact h4 j u hj
        · rw [List.getElem?_append_right (by omega)] at hj
          have hlt2 : j - css.flatten.length < sz := by
            have := (List.getElem?_eq_some_iff.1 hj).1
            omega
          have h9 := h8 _ hlt2
          rw [hj, add_row, h3] at h9
          rw [← h9]
          congr 2
          omega
  obtain ⟨l, css, h1, h2, h3, h4⟩ := key len (Nat.le_refl _)
  refine ⟨some a, len, cap, l, css, rfl, h1, h2, ⟨h3, hl, by simpa [maxLen] using hm, fun j u hj => ⟨rfl, cellS_of (h4 j u hj)⟩⟩⟩
theorem fld {t ft : TypeId} {i off sz fuel : Nat} {cs l : List Value} {x : DataW H × List MemPlace} (fo : FO P t i off ft) (h : DataW.trod enc P w 0 (fun _ => true) true fuel t cs = some x) (hc : P.cellsOf ft = sz) (hl : (cs.drop off).take sz = l) : ∃ n y, DataW.trod enc P w 0 (fun _ => true) true n ft l = some y := by
  subst hl hc
  obtain ⟨fs, fd, inf, h2, h3, rfl, rfl, h6, h7⟩ := fo.out
  obtain ⟨xs, n, rfl, -, -, h4, h5⟩ := DataW.trod_struct h2 h
  have h8 := h5 i fd h3
  rw [List.getElem?_eq_getElem (by rw [h4]; exact (Array.getElem?_eq_some_iff.1 h3).1)] at h8
  exact ⟨n, _, h8⟩
/-- A struct by value. -/
theorem open_agg_ {t : TypeId} {fs : Array Field} {r : Reach} {b n : Nat} {v : Value} (ht : P.underlying t = some (.struct fs)) (hc : P.cellsOf t = n) (h : Value.okWide P w r b t v) : ∃ cs : Array Value, v = .agg cs ∧ cs.toList.length = n := by
  unfold Value.okWide at h
  rw [ht] at h
  obtain ⟨cs, h1, h2, -⟩ := h
  exact ⟨cs, h1, by rw [Array.length_toList, h2, hc]⟩
end
section
variable {H : Type} {enc : TypeId × Value → H} {w : World}
set_option maxRecDepth 100000 in
theorem open_rec {fuel : Nat} {cs : List Value} {x : DataW H × List MemPlace} (hl : cs.length = 2) (h : DataW.trod enc Try.prog w 0 (fun _ => true) true fuel 89 cs = some x) : ∃ r : Rec, cs = [.string r.key, .string r.value] := by
  match cs, hl with
  | [c0, c1], _ =>
    obtain ⟨_, _, f0⟩ := fld (i := 0) inferInstance h (sz := 1) (by kernel_rfl) rfl
    obtain ⟨_, _, f1⟩ := fld (i := 1) inferInstance h (sz := 1) (by kernel_rfl) rfl
    obtain ⟨z0, e0, -, -⟩ := DataW.trod_string Try.underlying9 f0
    obtain ⟨z1, e1, -, -⟩ := DataW.trod_string Try.underlying9 f1
    simp at e0 e1
    subst e0 e1
    exact ⟨⟨z0, z1⟩, rfl⟩
theorem rcells_of : ∀ {css : List (List Value)} {l : List Rec}, All2 (fun cs r => cs = [.string r.key, .string r.value]) css l → css.flatten = rcells l
  | [], [], _ => rfl
  | _ :: _, r :: l, ⟨h1, h2⟩ => by
    subst h1
    rw [List.flatten_cons, rcells_of h2]
    rfl
  | [], _ :: _, h => h.elim
  | _ :: _, [], h => h.elim
theorem open_recs {fuel : Nat} {cs : List Value} {x : DataW H × List MemPlace} (h : DataW.trod enc Try.prog w 0 (fun _ => true) true fuel 85 cs = some x) : ∃ A n c l, cs = [.slice A n c] ∧ Rs (hp w) A n c l := by
  obtain ⟨A, n, c, l, css, h1, h2, h3, h4⟩ := open_Sl (El := fun cs (r : Rec) => cs = [.string r.key, .string r.value]) Try.underlying85 (sz := 2) (by kernel_rfl) (fun n cs' y hl hy => open_rec hl hy) h
  rw [rcells_of h2] at h4
  exact ⟨A, n, c, l, h1, h4⟩
theorem wf64 {n : Int} (h : (Lit.int .i64 n).wf = true) : -9223372036854775808 ≤ n ∧ n ≤ 9223372036854775807 := by
  simp only [Lit.wf, Bool.and_eq_true, decide_eq_true_eq] at h
  exact h
set_option maxRecDepth 100000 in
theorem open_batch {fuel : Nat} {cs : List Value} {x : DataW H × List MemPlace} (hl : cs.length = 5) (h : DataW.trod enc Try.prog w 0 (fun _ => true) true fuel 87 cs = some x) :
    ∃ p e q t A n c l, cs = [.int .i64 p, .int .i64 e, .int .i64 q, .bool t, .slice A n c] ∧ Rs (hp w) A n c l ∧ (-9223372036854775808 ≤ p ∧ p ≤ 9223372036854775807) ∧ (-9223372036854775808 ≤ e ∧ e ≤ 9223372036854775807) ∧ (-9223372036854775808 ≤ q ∧ q ≤ 9223372036854775807) := by
  match cs, hl with
  | [c0, c1, c2, c3, c4], _ =>
    obtain ⟨_, _, f0⟩ := fld (i := 0) inferInstance h (sz := 1) (by kernel_rfl) rfl
    obtain ⟨_, _, f1⟩ := fld (i := 1) inferInstance h (sz := 1) (by kernel_rfl) rfl
    obtain ⟨_, _, f2⟩ := fld (i := 2) inferInstance h (sz := 1) (by kernel_rfl) rfl
    obtain ⟨_, _, f3⟩ := fld (i := 3) inferInstance h (sz := 1) (by kernel_rfl) rfl
    obtain ⟨_, _, f4⟩ := fld (i := 4) inferInstance h (sz := 1) (by kernel_rfl) rfl
    obtain ⟨z0, e0, -, w0⟩ := DataW.trod_int Try.underlying3 f0
    obtain ⟨z1, e1, -, w1⟩ := DataW.trod_int Try.underlying3 f1
    obtain ⟨z2, e2, -, w2⟩ := DataW.trod_int Try.underlying3 f2
    obtain ⟨z3, e3, -⟩ := DataW.trod_bool Try.underlying4 f3
    obtain ⟨A, n, c, l, e4, hs⟩ := open_recs f4
    simp at e0 e1 e2 e3 e4
    subst e0 e1 e2 e3 e4
    exact ⟨_, _, _, _, _, _, _, _, rfl, hs, wf64 w0, wf64 w1, wf64 w2⟩
end
end Go.Proofs.Ytnndjobhcncanaa
