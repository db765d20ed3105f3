/- FieldsWrite, proved: numbers, texts, flags are written as the document says. CONDITIONS: none beyond the statement's own. -/
import Derived.Test.YtgggcfhmcelioaaRows
import Derived.Test.YtgggcfhmcelioaaN4
import Derived.Test.YtgggcfhmcelioaaO2
namespace Go.Proofs.Ytgggcfhmcelioaa
open Go.ChangeShapes Go.WideShapes Go.ChangeAt Go.RowKit
theorem own_ : ownKnob Try.prog.godebug = none := by kernel_rfl
theorem laidOut_ : laidOutB Try.prog = true := by kernel_rfl
set_option maxRecDepth 100000 in
theorem fieldsWrite_lifted (os : Os) (started : os.Started) (H : Type) (enc : TypeId × Value → H) :
    ReturnsInHanded {} Try.checked os 5 .any (Rows.fieldsWriteSpec.pre6 enc Try.prog Try.f5 Rows.fieldsWriteRow.domain false) (Rows.fieldsWriteSpec.post enc Try.prog Try.f5 false true false false) := by
  refine returnsInHanded_of_change_sized (C := Try.checked) own_ started (by kernel_rfl) Try.func5
    (ChangeSpec.witness6 (enc := enc) (C := Try.checked) false ⟨#[], #[.slice none 0 0, .int .i64 0, .string ⟨#[]⟩, .bool false], []⟩ 8 (by kernel_rfl) (by kernel_rfl) (by kernel_rfl) (by kernel_rfl)) ?_
  intro W base args ds gs before hval0 hW hcnd hsz _
  have hval : ∀ (j : Nat) t v, Try.f5.params[j]? = some t → args[j]? = some v → Value.okWide Try.prog W .any base t v := hval0
  have hW' := hW
  obtain ⟨p, q, hA0, hV, rfl, hfz, hnd⟩ := hW
  have hA : DataW.TrodAll enc Try.prog W 0 (fun _ => true) true Try.f5.params.toList args.toList ds p := hA0
  rw [Try.params5] at hA hval
  obtain ⟨v0, v1, v2, v3, d0, d1, d2, d3, p0, p1, p2, p3, rfl, rfl, rfl, h0, h1, h2, h3⟩ := trodAll_four hA
  obtain ⟨rfl, rfl⟩ := trodVars_none hV
  have h0k := h0
  have h1k := h1
  have h2k := h2
  have h3k := h3
  obtain ⟨a0, len, cap, rfl⟩ := okWide_slice Try.underlying35 (hval 0 35 v0 rfl rfl)
  obtain ⟨x, rfl, rfl, rfl, wx⟩ := open_int Try.underlying3 (hval 1 3 v1 rfl rfl) h1
  obtain ⟨z, rfl, rfl, rfl, hz⟩ := Go.ChangeMaps.open_string Try.underlying9 (hval 2 9 v2 rfl rfl) h2
  obtain ⟨yes, rfl, rfl, rfl⟩ := open_bool Try.underlying4 (hval 3 4 v3 rfl rfl) h3
  obtain ⟨_, hf0⟩ := h0
  obtain ⟨A, n, c, l, e0, hb⟩ := open_bytes hf0
  have e0' : a0 = A ∧ len = n ∧ cap = c := by simpa [Value.cells] using e0
  obtain ⟨rfl, rfl, rfl⟩ := e0'
  clear hA0 hval0
  simp only [List.append_nil] at hW'
  have hlt0 : ∀ x ∈ p0, x.block < W.heap.size := fun x hx => by simpa using hW'.lt x (by simp [hx])
  have hlen : len ≤ 140737488355328 := by
    rcases slice_len Try.underlying35 hf0 with h | ⟨elems, spare, h4, h5⟩
    · omega
    · have h6 := sized_slice hsz (j := 0) (t := 35) (e := 5) (elems := elems) (spare := spare) rfl (by rw [← h4]; rfl) Try.underlying35
      rw [show Try.checked.prog.bytesOf 5 = 1 from by kernel_rfl] at h6
      have := reachBytes_lt
      omega
  have hzs : z.size ≤ 140737488355328 := by
    have h6 := sized_string hsz (j := 2) (t := 9) (bytes := z.data.toList) rfl rfl
    rw [Array.length_toList] at h6
    have h7 : z.data.size = z.size := rfl
    have := reachBytes_lt
    omega
  refine (write_calls a0 len cap l x z yes (hp W) hb hlen hzs W (Mem.all W)).mono fun e W' hx => ?_
  obtain ⟨s', h', ⟨rfl, rfl⟩, hc⟩ := hx
  have bel : Below W.heap.size W W' := hc.ext.below
  refine ⟨_, rfl, ?_⟩
  refine ⟨_, _, _, [], p0 ++ ([] ++ ([] ++ [])), [], hW', ?_, ?_, rfl, bel.frame _, fun h => by cases h⟩
  · exact trodAll_mk1 (shut_bool Try.underlying4 true)
  · exact trodAll_mk4 (Below.trod laidOut_ (by kernel_rfl) (of_decide_eq_true (by kernel_rfl)) h0k bel hlt0) (shut_int Try.underlying3 wx) (Go.ChangeMaps.shut_string Try.underlying9 hz) (shut_bool Try.underlying4 yes)
theorem fieldsWrite_holds : Rows.FieldsWriteSaid :=
  OpenClaim.holds_of_wide 5 Try.f5 rfl rfl rfl rfl rfl rfl rfl ⟨rfl, rfl, rfl, rfl, rfl⟩ rfl rfl rfl rfl rfl (by kernel_rfl) Try.func5 (by kernel_rfl)
    (of_decide_eq_true (by kernel_rfl)) (by unfold Func.isWrapper; first | (rw [if_pos (by decide +kernel)]; kernel_rfl) | (rw [if_neg (by decide +kernel)]; exact ⟨rfl, rfl⟩))
    (fun os started H enc _ => fieldsWrite_lifted os started H enc)
#print axioms fieldsWrite_holds
end Go.Proofs.Ytgggcfhmcelioaa
