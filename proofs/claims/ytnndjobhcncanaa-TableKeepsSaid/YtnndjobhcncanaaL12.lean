/- TableKeeps, proved: tables written and read are the same tables; bytes read and written are the same bytes. CONDITIONS: none beyond the statement's own. -/
import Derived.Test.YtnndjobhcncanaaRows
import Derived.Test.YtnndjobhcncanaaU24
import Derived.Test.YtnndjobhcncanaaO3
import Derived.Test.YtnndjobhcncanaaO4
import Derived.Deep.CondSized
namespace Go.Proofs.Ytnndjobhcncanaa
open Go.ChangeShapes Go.WideShapes Go.ChangeAt Go.RowKit
theorem own_ : ownKnob Try.prog.godebug = none := by kernel_rfl
theorem laidOut_ : laidOutB Try.prog = true := by kernel_rfl
set_option maxRecDepth 100000 in
theorem tableKeeps_lifted (os : Os) (started : os.Started) (H : Type) (enc : TypeId × Value → H) :
    ReturnsInHanded {} Try.checked os 10 .any (Rows.tableKeepsSpec.pre6 enc Try.prog Try.f10 Rows.tableKeepsRow.domain false) (Rows.tableKeepsSpec.post enc Try.prog Try.f10 false true false false) := by
  refine returnsInHanded_of_change_sized (C := Try.checked) own_ started (by kernel_rfl) Try.func10
    (ChangeSpec.witness6 (enc := enc) (C := Try.checked) false ⟨#[], #[.slice none 0 0, .string ⟨#[]⟩], []⟩ 8 (by kernel_rfl) (by kernel_rfl) (by kernel_rfl) (by kernel_rfl)) ?_
  intro W base args ds gs before hval0 hW hcnd hsz _
  have hval : ∀ (j : Nat) t v, Try.f10.params[j]? = some t → args[j]? = some v → Value.okWide Try.prog W .any base t v := hval0
  have hW' := hW
  obtain ⟨p, q, hA0, hV, rfl, hfz, hnd⟩ := hW
  have hA : DataW.TrodAll enc Try.prog W 0 (fun _ => true) true Try.f10.params.toList args.toList ds p := hA0
  rw [Try.params10] at hA hval
  obtain ⟨v0, v1, d0, d1, p0, p1, rfl, rfl, rfl, h0, h1⟩ := trodAll_two hA
  obtain ⟨rfl, rfl⟩ := trodVars_none hV
  have h0k := h0
  obtain ⟨s0, len0, cap0, rfl⟩ := okWide_slice Try.underlying50 (hval 0 50 v0 rfl rfl)
  obtain ⟨_, hf0⟩ := h0
  obtain ⟨a0, l0, e0, g0⟩ := open_tables hf0
  have e0' : s0 = a0.A ∧ len0 = a0.n ∧ cap0 = a0.c := by simpa [Value.cells] using e0
  obtain ⟨rfl, rfl, rfl⟩ := e0'
  obtain ⟨z1, rfl, rfl, rfl, w1⟩ := Go.ChangeMaps.open_string Try.underlying9 (hval 1 9 v1 rfl rfl) h1
  clear hA0 hval0
  simp only [List.append_nil] at hW'
  have hlt0 : ∀ x ∈ p0, x.block < W.heap.size := fun x hx => by simpa using hW'.lt x (by simp [hx])
  have hz1 : z1.size ≤ 140737488355328 := by
    have h6 := sized_string hsz (j := 1) (t := 9) (bytes := z1.data.toList) rfl rfl
    rw [Array.length_toList] at h6
    have h7 : z1.data.size = z1.size := rfl
    have := reachBytes_lt
    omega
  refine (tkeeps_calls a0 l0 z1 (hp W) g0 W (Mem.all W)).mono fun e W' hx => ?_
  obtain ⟨s', h', ⟨rfl, rfl⟩, hc⟩ := hx
  have bel : Below W.heap.size W W' := hc.ext.below
  refine ⟨_, rfl, ?_⟩
  refine ⟨_, _, _, [], p0 ++ [], [], hW', ?_, ?_, rfl, bel.frame _, fun h => by cases h⟩
  · exact trodAll_mk1 (shut_bool Try.underlying4 true)
  · exact trodAll_mk2 (Below.trod laidOut_ (by kernel_rfl) (of_decide_eq_true (by kernel_rfl)) h0k bel hlt0) (Go.ChangeMaps.shut_string Try.underlying9 w1)
theorem tableKeeps_holds : Rows.TableKeepsSaid :=
  OpenClaim.holds_of_wide 10 Try.f10 rfl rfl rfl rfl rfl rfl rfl ⟨rfl, rfl, rfl, rfl, rfl⟩ rfl rfl rfl rfl rfl (by kernel_rfl) Try.func10 (by kernel_rfl)
    (of_decide_eq_true (by kernel_rfl)) (by unfold Func.isWrapper; first | (rw [if_pos (by decide +kernel)]; kernel_rfl) | (rw [if_neg (by decide +kernel)]; exact ⟨rfl, rfl⟩))
    (fun os started H enc _ => tableKeeps_lifted os started H enc)
#print axioms tableKeeps_holds
end Go.Proofs.Ytnndjobhcncanaa
