/- TableTells, proved: what any table answers is what the document says. CONDITIONS: none beyond the statement's own. -/
import Derived.Test.YtnndjobhcncanaaRows
import Derived.Test.YtnndjobhcncanaaU17
import Derived.Test.YtnndjobhcncanaaO3
namespace Go.Proofs.Ytnndjobhcncanaa
open Go.ChangeShapes Go.WideShapes Go.ChangeAt Go.RowKit
theorem own_ : ownKnob Try.prog.godebug = none := by kernel_rfl
theorem laidOut_ : laidOutB Try.prog = true := by kernel_rfl
set_option maxRecDepth 100000 in
theorem tableTells_lifted (os : Os) (started : os.Started) (H : Type) (enc : TypeId × Value → H) :
    ReturnsInHanded {} Try.checked os 7 .any (Rows.tableTellsSpec.pre6 enc Try.prog Try.f7 Rows.tableTellsRow.domain false) (Rows.tableTellsSpec.post enc Try.prog Try.f7 false true false false) := by
  refine returnsInHanded_of_change (C := Try.checked) own_ started (by kernel_rfl) Try.func7
    (ChangeSpec.witness6 (enc := enc) (C := Try.checked) false ⟨#[], #[.agg #[.int .i64 0, .int .i64 0, .slice none 0 0], .agg #[.int .i64 0, .int .i64 0, .slice none 0 0], .int .i64 0], []⟩ 8 (by kernel_rfl) (by kernel_rfl) (by kernel_rfl) (by kernel_rfl)) ?_
  intro W base args ds gs before hval0 hW hcnd _
  have hval : ∀ (j : Nat) t v, Try.f7.params[j]? = some t → args[j]? = some v → Value.okWide Try.prog W .any base t v := hval0
  have hW' := hW
  obtain ⟨p, q, hA0, hV, rfl, hfz, hnd⟩ := hW
  have hA : DataW.TrodAll enc Try.prog W 0 (fun _ => true) true Try.f7.params.toList args.toList ds p := hA0
  rw [Try.params7] at hA hval
  obtain ⟨v0, v1, v2, d0, d1, d2, p0, p1, p2, rfl, rfl, rfl, h0, h1, h2⟩ := trodAll_three hA
  obtain ⟨rfl, rfl⟩ := trodVars_none hV
  have h0k := h0
  have h1k := h1
  obtain ⟨cs0, rfl, k0⟩ := open_agg_ (n := 3) Try.underlying33 (by kernel_rfl) (hval 0 33 v0 rfl rfl)
  obtain ⟨_, hf0⟩ := h0
  obtain ⟨a0, e0, g0⟩ := open_table k0 hf0
  obtain rfl : cs0 = (TabD.cells a0).toArray := Array.ext' e0
  obtain ⟨cs1, rfl, k1⟩ := open_agg_ (n := 3) Try.underlying33 (by kernel_rfl) (hval 1 33 v1 rfl rfl)
  obtain ⟨_, hf1⟩ := h1
  obtain ⟨a1, e1, g1⟩ := open_table k1 hf1
  obtain rfl : cs1 = (TabD.cells a1).toArray := Array.ext' e1
  obtain ⟨x2, rfl, rfl, rfl, w2⟩ := open_int Try.underlying3 (hval 2 3 v2 rfl rfl) h2
  clear hA0 hval0
  simp only [List.append_nil, List.append_assoc] at hW'
  have hlt0 : ∀ x ∈ p0, x.block < W.heap.size := fun x hx => by simpa using hW'.lt x (by simp [hx])
  have hlt1 : ∀ x ∈ p1, x.block < W.heap.size := fun x hx => by simpa using hW'.lt x (by simp [hx])
  refine (tells_calls a0 a1 x2 (hp W) g0 g1 W (Mem.all W)).mono fun e W' hx => ?_
  obtain ⟨s', h', ⟨rfl, rfl⟩, hc⟩ := hx
  have bel : Below W.heap.size W W' := hc.ext.below
  refine ⟨_, rfl, ?_⟩
  refine ⟨_, _, _, [], p0 ++ (p1 ++ []), [], hW', ?_, ?_, rfl, bel.frame _, fun h => by cases h⟩
  · exact trodAll_mk1 (shut_bool Try.underlying4 true)
  · exact trodAll_mk3 (Below.trod laidOut_ (by kernel_rfl) (of_decide_eq_true (by kernel_rfl)) h0k bel hlt0) (Below.trod laidOut_ (by kernel_rfl) (of_decide_eq_true (by kernel_rfl)) h1k bel hlt1) (shut_int Try.underlying3 w2)
theorem tableTells_holds : Rows.TableTellsSaid :=
  OpenClaim.holds_of_wide 7 Try.f7 rfl rfl rfl rfl rfl rfl rfl ⟨rfl, rfl, rfl, rfl, rfl⟩ rfl rfl rfl rfl rfl (by kernel_rfl) Try.func7 (by kernel_rfl)
    (of_decide_eq_true (by kernel_rfl)) (by unfold Func.isWrapper; first | (rw [if_pos (by decide +kernel)]; kernel_rfl) | (rw [if_neg (by decide +kernel)]; exact ⟨rfl, rfl⟩))
    (fun os started H enc _ => tableTells_lifted os started H enc)
#print axioms tableTells_holds
end Go.Proofs.Ytnndjobhcncanaa
