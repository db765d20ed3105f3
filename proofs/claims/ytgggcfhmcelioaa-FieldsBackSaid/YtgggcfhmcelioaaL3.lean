/- FieldsBack, proved: fields that were written are read in the same order. CONDITIONS: none beyond the statement's own. -/
import Derived.Test.YtgggcfhmcelioaaRows
import Derived.Test.YtgggcfhmcelioaaN6
import Derived.Test.YtgggcfhmcelioaaO2
namespace Go.Proofs.Ytgggcfhmcelioaa
open Go.ChangeShapes Go.WideShapes Go.ChangeAt Go.RowKit
theorem own_ : ownKnob Try.prog.godebug = none := by kernel_rfl
theorem laidOut_ : laidOutB Try.prog = true := by kernel_rfl
set_option maxRecDepth 100000 in
theorem open_fld {H : Type} {enc : TypeId × Value → H} {w : World} {fuel : Nat} {cs : List Value} {x : DataW H × List MemPlace} (hl : cs.length = 3) (h : DataW.trod enc Try.prog w 0 (fun _ => true) true fuel 34 cs = some x) : ∃ r : Fld, cs = [.int .i64 r.do_, .int .i64 r.num, .string r.txt] := by
  match cs, hl with
  | [c0, c1, c2], _ =>
    obtain ⟨_, _, f0⟩ := fld (i := 0) inferInstance h (sz := 1) (by kernel_rfl) rfl
    obtain ⟨_, _, f1⟩ := fld (i := 1) inferInstance h (sz := 1) (by kernel_rfl) rfl
    obtain ⟨_, _, f2⟩ := fld (i := 2) inferInstance h (sz := 1) (by kernel_rfl) rfl
    obtain ⟨z0, e0, -, -⟩ := DataW.trod_int Try.underlying3 f0
    obtain ⟨z1, e1, -, -⟩ := DataW.trod_int Try.underlying3 f1
    obtain ⟨z2, e2, -, -⟩ := DataW.trod_string Try.underlying9 f2
    simp at e0 e1 e2
    subst e0 e1 e2
    exact ⟨⟨z0, z1, z2⟩, rfl⟩
theorem fcells_of : ∀ {css : List (List Value)} {l : List Fld}, All2 (fun cs r => cs = [.int .i64 r.do_, .int .i64 r.num, .string r.txt]) css l → css.flatten = fcells l
  | [], [], _ => rfl
  | _ :: _, r :: l, ⟨h1, h2⟩ => by
    subst h1
    rw [List.flatten_cons, fcells_of h2]
    rfl
  | [], _ :: _, h => h.elim
  | _ :: _, [], h => h.elim
theorem open_flds {H : Type} {enc : TypeId × Value → H} {w : World} {fuel : Nat} {cs : List Value} {x : DataW H × List MemPlace} (h : DataW.trod enc Try.prog w 0 (fun _ => true) true fuel 32 cs = some x) : ∃ A n c l, cs = [.slice A n c] ∧ Fs (hp w) A n c l := by
  obtain ⟨A, n, c, l, css, h1, h2, h3, h4⟩ := open_Sl (El := fun cs (r : Fld) => cs = [.int .i64 r.do_, .int .i64 r.num, .string r.txt]) Try.underlying32 (sz := 3) (by kernel_rfl) (fun n cs' y hl hy => open_fld hl hy) h
  rw [fcells_of h2] at h4
  exact ⟨A, n, c, l, h1, h4⟩
set_option maxRecDepth 100000 in
theorem fieldsBack_lifted (os : Os) (started : os.Started) (H : Type) (enc : TypeId × Value → H) :
    ReturnsInHanded {} Try.checked os 4 .any (Rows.fieldsBackSpec.pre6 enc Try.prog Try.f4 Rows.fieldsBackRow.domain false) (Rows.fieldsBackSpec.post enc Try.prog Try.f4 false true false false) := by
  refine returnsInHanded_of_change (C := Try.checked) own_ started (by kernel_rfl) Try.func4
    (ChangeSpec.witness6 (enc := enc) (C := Try.checked) false ⟨#[], #[.slice none 0 0, .int .i64 0], []⟩ 8 (by kernel_rfl) (by kernel_rfl) (by kernel_rfl) (by kernel_rfl)) ?_
  intro W base args ds gs before hval0 hW hcnd _
  have hval : ∀ (j : Nat) t v, Try.f4.params[j]? = some t → args[j]? = some v → Value.okWide Try.prog W .any base t v := hval0
  have hW' := hW
  obtain ⟨p, q, hA0, hV, rfl, hfz, hnd⟩ := hW
  have hA : DataW.TrodAll enc Try.prog W 0 (fun _ => true) true Try.f4.params.toList args.toList ds p := hA0
  rw [Try.params4] at hA hval
  obtain ⟨v0, v1, d0, d1, p0, p1, rfl, rfl, rfl, h0, h1⟩ := trodAll_two hA
  obtain ⟨rfl, rfl⟩ := trodVars_none hV
  have h0k := h0
  obtain ⟨a0, len, cap, rfl⟩ := okWide_slice Try.underlying32 (hval 0 32 v0 rfl rfl)
  obtain ⟨x, rfl, rfl, rfl, wx⟩ := open_int Try.underlying3 (hval 1 3 v1 rfl rfl) h1
  obtain ⟨_, hf0⟩ := h0
  obtain ⟨A, n, c, l, e0, hb⟩ := open_flds hf0
  have e0' : a0 = A ∧ len = n ∧ cap = c := by simpa [Value.cells] using e0
  obtain ⟨rfl, rfl, rfl⟩ := e0'
  clear hA0 hval0
  simp only [List.append_nil] at hW'
  have hlt0 : ∀ x ∈ p0, x.block < W.heap.size := fun x hx => by simpa using hW'.lt x (by simp [hx])
  refine (back_calls a0 len cap l x (hp W) hb W (Mem.all W)).mono fun e W' hx => ?_
  obtain ⟨s', h', ⟨rfl, rfl⟩, hc⟩ := hx
  have bel : Below W.heap.size W W' := hc.ext.below
  refine ⟨_, rfl, ?_⟩
  refine ⟨_, _, _, [], p0 ++ [], [], hW', ?_, ?_, rfl, bel.frame _, fun h => by cases h⟩
  · exact trodAll_mk1 (shut_bool Try.underlying4 true)
  · exact trodAll_mk2 (Below.trod laidOut_ (by kernel_rfl) (of_decide_eq_true (by kernel_rfl)) h0k bel hlt0) (shut_int Try.underlying3 wx)
theorem fieldsBack_holds : Rows.FieldsBackSaid :=
  OpenClaim.holds_of_wide 4 Try.f4 rfl rfl rfl rfl rfl rfl rfl ⟨rfl, rfl, rfl, rfl, rfl⟩ rfl rfl rfl rfl rfl (by kernel_rfl) Try.func4 (by kernel_rfl)
    (of_decide_eq_true (by kernel_rfl)) (by unfold Func.isWrapper; first | (rw [if_pos (by decide +kernel)]; kernel_rfl) | (rw [if_neg (by decide +kernel)]; exact ⟨rfl, rfl⟩))
    (fun os started H enc _ => fieldsBack_lifted os started H enc)
#print axioms fieldsBack_holds
end Go.Proofs.Ytgggcfhmcelioaa
