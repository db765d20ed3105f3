/- What the document says of a batch. No statement of the seat is proved here. -/
import Derived.Test.YtgggcfhmcelioaaQ3
import Derived.Test.YtgggcfhmcelioaaQ4
namespace Go.Proofs.Ytgggcfhmcelioaa
open Go.RowKit
abbrev rAB : Rec := ⟨⟨#[97]⟩, ⟨#[98]⟩⟩
theorem benc_AB : benc 1 0 2 false [rAB] = [1, 0, 2, 0, 1, 1, 97, 1, 98] := by
  have h0 : venc 0 = [0] := venc_one 0 (by omega)
  have h1 : venc 1 = [1] := venc_one 1 (by omega)
  have h2 : venc 2 = [2] := venc_one 2 (by omega)
  have h3 : tenc (⟨#[97]⟩ : ByteArray) = [1, 97] := by rw [tenc, show (⟨#[97]⟩ : ByteArray).size = 1 from rfl, h1]; rfl
  have h4 : tenc (⟨#[98]⟩ : ByteArray) = [1, 98] := by rw [tenc, show (⟨#[98]⟩ : ByteArray).size = 1 from rfl, h1]; rfl
  simp only [benc, bhead, renc, List.flatMap_cons, List.flatMap_nil, h3, h4, List.length_cons, List.length_nil, show (1 : Int).toNat = 1 from rfl, show (0 : Int).toNat = 0 from rfl, show (2 : Int).toNat = 2 from rfl, h0, h1, h2, Nat.zero_add]
  rfl
set_option maxHeartbeats 8000000 in
theorem wakes6_calls (s : Store) : Fn Try.prog 14 #[] s [] (fun x _ h' => x = .returned (.bool true) ∧ h' = []) := by
  refine Fn.intro (args := []) Try.func14 rfl Try.ntmps14 (Nat.le_of_ble_eq_true rfl) (fun C ok hh => ?_)
  repeat (first | (with_reducible refine GL.nil ?_) | (with_reducible refine G.region ?_) | (with_reducible refine G.seq ?_) | (with_reducible refine G.skip ?_) | (with_reducible refine G.block ?_) | (with_reducible refine G.inBlock ?_) | (with_reducible refine G.label ?_) | ((with_reducible show GL _ _ _ _ (_ :: _) _ _ _ _); first | refine GL.p ?_ | refine GL.p (he := by first | (first | exact PEv.eqC rfl rfl rfl rfl | exact PEv.neC rfl rfl rfl rfl | exact PEv.buildA rfl rfl rfl | exact PEv.indexArr rfl rfl rfl (by decide) (by decide) rfl rfl | (apply PEv.string rfl rfl; assumption) | exact PEv.cut2 rfl rfl rfl rfl (by omega) (by omega) (by omega) (by omega))) ?_ | refine GL.store ?_ | refine GL.storeN ?_ | refine GL.boxA (fun g => ?_) | refine GL.box1 (fun g => ?_) | refine GL.alloc1 (fun g => ?_) | refine GL.allocA (fun g => ?_) | refine GL.no ?_) | ((with_reducible show G _ _ _ (Item.code (Code.cond _ _ _) :: _) _ _ _); first | refine G.condT rfl ?_ | refine G.condF rfl ?_ | refine G.condYes rfl (by omega) ?_ | refine G.condNo rfl (by omega) ?_) | (with_reducible refine G.exit rfl ?_))
  refine GL.re 5 (.agg [.string rAB.key, .string rAB.value].toArray) ?_
  refine GL.litA rfl fun A s1 hle1 hs1 => ?_
  have hr : Rs s1 A 1 1 [rAB] := hs1
  refine GL.p (d := 7) ?_
  refine GL.re 7 (batV 1 0 2 false A 1 1) ?_
  repeat (first | (with_reducible refine GL.nil ?_) | (with_reducible refine G.region ?_) | (with_reducible refine G.seq ?_) | (with_reducible refine G.skip ?_) | (with_reducible refine G.block ?_) | (with_reducible refine G.inBlock ?_) | (with_reducible refine G.label ?_) | ((with_reducible show GL _ _ _ _ (_ :: _) _ _ _ _); first | refine GL.p ?_ | refine GL.p (he := by first | (first | exact PEv.eqC rfl rfl rfl rfl | exact PEv.neC rfl rfl rfl rfl | exact PEv.buildA rfl rfl rfl | exact PEv.indexArr rfl rfl rfl (by decide) (by decide) rfl rfl | (apply PEv.string rfl rfl; assumption) | exact PEv.cut2 rfl rfl rfl rfl (by omega) (by omega) (by omega) (by omega))) ?_ | refine GL.store ?_ | refine GL.storeN ?_ | refine GL.boxA (fun g => ?_) | refine GL.box1 (fun g => ?_) | refine GL.alloc1 (fun g => ?_) | refine GL.allocA (fun g => ?_) | refine GL.no ?_) | ((with_reducible show G _ _ _ (Item.code (Code.cond _ _ _) :: _) _ _ _); first | refine G.condT rfl ?_ | refine G.condF rfl ?_ | refine G.condYes rfl (by omega) ?_ | refine G.condNo rfl (by omega) ?_) | (with_reducible refine G.exit rfl ?_))
  refine GL.re 9 (batV 1 0 2 false A 1 1) ?_
  refine GL.call rfl rfl (bytes_ok 1 0 2 false A 1 1 [rAB] _ hr (by decide)) .nil fun v s2 h2 hp hle2 => ?_
  obtain ⟨e1, rfl⟩ := hp
  rw [benc_AB] at e1
  cases e1
  rw [List.nil_append]
  have hr2 := hr.le hle2
  repeat (first | (with_reducible refine GL.nil ?_) | (with_reducible refine G.region ?_) | (with_reducible refine G.seq ?_) | (with_reducible refine G.skip ?_) | (with_reducible refine G.block ?_) | (with_reducible refine G.inBlock ?_) | (with_reducible refine G.label ?_) | ((with_reducible show GL _ _ _ _ (_ :: _) _ _ _ _); first | refine GL.p ?_ | refine GL.p (he := by first | (first | exact PEv.eqC rfl rfl rfl rfl | exact PEv.neC rfl rfl rfl rfl | exact PEv.buildA rfl rfl rfl | exact PEv.indexArr rfl rfl rfl (by decide) (by decide) rfl rfl | (apply PEv.string rfl rfl; assumption) | exact PEv.cut2 rfl rfl rfl rfl (by omega) (by omega) (by omega) (by omega))) ?_ | refine GL.store ?_ | refine GL.storeN ?_ | refine GL.boxA (fun g => ?_) | refine GL.box1 (fun g => ?_) | refine GL.alloc1 (fun g => ?_) | refine GL.allocA (fun g => ?_) | refine GL.no ?_) | ((with_reducible show G _ _ _ (Item.code (Code.cond _ _ _) :: _) _ _ _); first | refine G.condT rfl ?_ | refine G.condF rfl ?_ | refine G.condYes rfl (by omega) ?_ | refine G.condNo rfl (by omega) ?_) | (with_reducible refine G.exit rfl ?_))
  refine GL.re 13 (batV 1 0 2 false A 1 1) ?_
  refine GL.call rfl rfl (rows_calls 1 0 2 false A 1 1 [rAB] 7 _ hr2 (by omega) (by omega) (by omega)) .nil fun v s3 h3 hp hle3 => ?_
  obtain ⟨A3, c3, e1, rfl, hs3⟩ := hp
  cases e1
  rw [List.nil_append]
  have hr3 := hr2.le hle3
  have hE : ((rowsC 7 1 2 0 [rAB]).drop ((0 : Int).toNat * 5)).take 5 = rwc 7 1 2 rAB := rfl
  repeat (first | (with_reducible refine GL.nil ?_) | (with_reducible refine G.region ?_) | (with_reducible refine G.seq ?_) | (with_reducible refine G.skip ?_) | (with_reducible refine G.block ?_) | (with_reducible refine G.inBlock ?_) | (with_reducible refine G.label ?_) | ((with_reducible show GL _ _ _ _ (_ :: _) _ _ _ _); first | refine GL.p ?_ | refine GL.p (he := by first | (first | exact PEv.eqC rfl rfl rfl rfl | exact PEv.neC rfl rfl rfl rfl | exact PEv.buildA rfl rfl rfl | exact PEv.indexArr rfl rfl rfl (by decide) (by decide) rfl rfl | (apply PEv.string rfl rfl; assumption) | exact PEv.cut2 rfl rfl rfl rfl (by omega) (by omega) (by omega) (by omega))) ?_ | refine GL.store ?_ | refine GL.storeN ?_ | refine GL.boxA (fun g => ?_) | refine GL.box1 (fun g => ?_) | refine GL.alloc1 (fun g => ?_) | refine GL.allocA (fun g => ?_) | refine GL.no ?_) | ((with_reducible show G _ _ _ (Item.code (Code.cond _ _ _) :: _) _ _ _); first | refine G.condT rfl ?_ | refine G.condF rfl ?_ | refine G.condYes rfl (by omega) ?_ | refine G.condNo rfl (by omega) ?_) | (with_reducible refine G.exit rfl ?_))
  refine GL.re 34 (batV 1 0 2 false A 1 1) ?_
  refine GL.call rfl rfl (behind_calls 1 0 2 false A 1 1 _ (by omega) (by omega)) .nil fun v s1 h1 hp hle => ?_; obtain ⟨e1, hs1, rfl⟩ := hp; subst s1; cases e1; rw [List.nil_append]
  repeat (first | (with_reducible refine GL.nil ?_) | (with_reducible refine G.region ?_) | (with_reducible refine G.seq ?_) | (with_reducible refine G.skip ?_) | (with_reducible refine G.block ?_) | (with_reducible refine G.inBlock ?_) | (with_reducible refine G.label ?_) | ((with_reducible show GL _ _ _ _ (_ :: _) _ _ _ _); first | refine GL.p ?_ | refine GL.p (he := by first | (first | exact PEv.eqC rfl rfl rfl rfl | exact PEv.neC rfl rfl rfl rfl | exact PEv.buildA rfl rfl rfl | exact PEv.indexArr rfl rfl rfl (by decide) (by decide) rfl rfl | (apply PEv.string rfl rfl; assumption) | exact PEv.cut2 rfl rfl rfl rfl (by omega) (by omega) (by omega) (by omega))) ?_ | refine GL.store ?_ | refine GL.storeN ?_ | refine GL.boxA (fun g => ?_) | refine GL.box1 (fun g => ?_) | refine GL.alloc1 (fun g => ?_) | refine GL.allocA (fun g => ?_) | refine GL.no ?_) | ((with_reducible show G _ _ _ (Item.code (Code.cond _ _ _) :: _) _ _ _); first | refine G.condT rfl ?_ | refine G.condF rfl ?_ | refine G.condYes rfl (by omega) ?_ | refine G.condNo rfl (by omega) ?_) | (with_reducible refine G.exit rfl ?_))
  refine G.sub .nil ?_
  refine G.ret1 ok rfl ?_
  exact ⟨rfl, rfl⟩
end Go.Proofs.Ytgggcfhmcelioaa
