/- What comes in, opened: bytes. No statement of the seat is proved here. -/
import Derived.Test.YtgggcfhmcelioaaO
import Derived.Test.YtgggcfhmcelioaaF
import Derived.SizedLaws
namespace Go.Proofs.Ytgggcfhmcelioaa
open Go.RowKit
section
variable {H : Type} {enc : TypeId × Value → H} {w : World}
theorem bcells_of : ∀ {css : List (List Value)} {l : List UInt8}, All2 (fun cs (b : UInt8) => cs = [.int .u8 b.toNat]) css l → css.flatten = bcells l
  | [], [], _ => rfl
  | _ :: _, b :: l, ⟨h1, h2⟩ => by
    subst h1
    rw [List.flatten_cons, bcells_of h2]
    rfl
  | [], _ :: _, h => h.elim
  | _ :: _, [], h => h.elim
theorem open_bytes {fuel : Nat} {cs : List Value} {x : DataW H × List MemPlace} (h : DataW.trod enc Try.prog w 0 (fun _ => true) true fuel 35 cs = some x) : ∃ A n c l, cs = [.slice A n c] ∧ Bs (hp w) A n c l := by
  obtain ⟨A, n, c, l, css, h1, h2, h3, h4⟩ := open_Sl (El := fun cs (b : UInt8) => cs = [.int .u8 b.toNat]) Try.underlying35 (sz := 1) (by kernel_rfl) (fun n cs' y hl hy => by
    obtain ⟨m, e0, -, w0⟩ := DataW.trod_int Try.underlying5 hy
    have hw : 0 ≤ m ∧ m ≤ 255 := by
      simp only [Lit.wf, Bool.and_eq_true, decide_eq_true_eq] at w0
      exact w0
    refine ⟨UInt8.ofNat m.toNat, ?_⟩
    rw [e0]
    congr 2
    simp
    omega) h
  rw [bcells_of h2] at h4
  exact ⟨A, n, c, l, h1, h4⟩
/-- How long a slice is, by its datum. -/
theorem slice_len {P : Program} {t e : TypeId} {fuel n c : Nat} {A : Option Addr} {x : DataW H × List MemPlace} (ht : P.underlying t = some (.slice e)) (h : DataW.trod enc P w 0 (fun _ => true) true fuel t [.slice A n c] = some x) : n = 0 ∨ ∃ elems spare, x.1 = .slice elems spare ∧ elems.length = n := by
  rcases DataW.trod_slice ht h with ⟨h1, _⟩ | ⟨a, len, cap, elems, rest, m, _, h1, h2, _, _, _, h3, _⟩
  · simp only [List.cons.injEq, Value.slice.injEq, and_true] at h1
    exact .inl h1.2.1
  · simp only [List.cons.injEq, Value.slice.injEq, and_true] at h1
    exact .inr ⟨elems.map (·.1), rest.map (·.1), by rw [h2], by rw [List.length_map, h3, h1.2.1]⟩
end
end Go.Proofs.Ytgggcfhmcelioaa
