/- What the document says of a text. No statement of the seat is proved here. -/
import Derived.Test.YtgggcfhmcelioaaN2
import Derived.Test.YtgggcfhmcelioaaR7
import Derived.Test.YtgggcfhmcelioaaV3
namespace Go.Proofs.Ytgggcfhmcelioaa
open Go.RowKit
theorem Sl.bytes {s : Store} {A : Option Addr} {n c : Nat} {l : List UInt8} (h : Bs s A n c l) : l.length = n := by have := h.len; simpa using this
abbrev zW : ByteArray := ⟨#[2, 97, 98, 1]⟩
theorem zW_one : rdTxt zW 0 false 9 = (⟨#[97, 98]⟩, 3, false) := by
  have h1 : vget ([2, 97, 98, 1] : List UInt8) = some (2, 1) := by
    have := vget_venc 2 [97, 98, 1] (by omega)
    rw [venc_one 2 (by omega), vlen_one 2 (by omega)] at this
    exact this
  have h2 : numR zW.data.toList 0 0 9 = some (2, 1) := by
    show (match vget ([2, 97, 98, 1] : List UInt8) with | some (x, q) => _ | none => none) = _
    rw [h1]
    rfl
  have h3 : txtR zW.data.toList 0 9 = some (2, 1) := by
    rw [txtR, h2]
    rfl
  rw [rdTxt_some h3]
  rfl
theorem zW_two : rdNum zW.data.toList 3 false 0 1 = (1, 4, false) := by
  have h1 : vget ([1] : List UInt8) = some (1, 1) := by
    have := vget_venc 1 [] (by omega)
    rw [venc_one 1 (by omega), vlen_one 1 (by omega)] at this
    exact this
  have h2 : numR zW.data.toList 3 0 1 = some (1, 4) := by
    show (match vget ([1] : List UInt8) with | some (x, q) => _ | none => none) = _
    rw [h1]
    rfl
  rw [rdNum_some h2]
set_option maxHeartbeats 8000000 in
theorem wakes2_calls (s : Store) : Fn Try.prog 19 #[] s [] (fun x _ h' => x = .returned (.bool true) ∧ h' = []) := by
  refine Fn.intro (args := []) Try.func19 rfl Try.ntmps19 (Nat.le_of_ble_eq_true rfl) (fun C ok hh => ?_)
  have ht : tenc (⟨#[97, 98]⟩ : ByteArray) = [2, 97, 98] := by rw [tenc, show (⟨#[97, 98]⟩ : ByteArray).size = 2 from rfl, venc_one 2 (by omega)]; rfl
  have hv : vlen (⟨#[97, 98]⟩ : ByteArray).size = 1 := vlen_one 2 (by omega)
  repeat (first | (with_reducible refine GL.nil ?_) | (with_reducible refine G.region ?_) | (with_reducible refine G.seq ?_) | (with_reducible refine G.skip ?_) | (with_reducible refine G.block ?_) | (with_reducible refine G.inBlock ?_) | (with_reducible refine G.label ?_) | ((with_reducible show GL _ _ _ _ (_ :: _) _ _ _ _); first | refine GL.p ?_ | refine GL.p (he := by first | (first | exact PEv.eqC rfl rfl rfl rfl | exact PEv.makeIface rfl rfl (by intro ms h; cases h) | exact PEv.neC rfl rfl rfl rfl | exact PEv.buildA rfl rfl rfl | exact PEv.indexArr rfl rfl rfl (by decide) (by decide) rfl rfl | (apply PEv.string rfl rfl; assumption) | (refine PEv.cutStr rfl rfl rfl rfl ?_ ?_ ?_ <;> omega)) | (first | (refine PEv.cutStrTo rfl rfl rfl ?_ ?_ <;> omega) | (refine PEv.cutStrFrom rfl rfl rfl ?_ ?_ <;> omega) | exact PEv.rem128 rfl rfl | exact PEv.quo128 rfl rfl (by omega) | exact PEv.cut2 rfl rfl rfl rfl (by omega) (by omega) (by omega) (by omega))) ?_ | refine GL.store ?_ | refine GL.storeN ?_ | refine GL.boxA (fun g => ?_) | refine GL.box1 (fun g => ?_) | refine GL.alloc1 rfl (fun g => ?_) | refine GL.allocA (fun g => ?_) | refine GL.no ?_) | ((with_reducible show G _ _ _ (Item.code (Code.cond _ _ _) :: _) _ _ _); first | refine G.condT rfl ?_ | refine G.condF rfl ?_ | refine G.condYes rfl (by omega) ?_ | refine G.condNo rfl (by omega) ?_) | (with_reducible refine G.exit rfl ?_))
  refine GL.call rfl rfl (text_fr none 0 0 [] ⟨#[97, 98]⟩ _ (Sl.nil s 1) (by omega) (by decide)) .nil fun v s1 h1 hp hle => ?_
  obtain ⟨A1, c1, e1, rfl, hs1⟩ := hp
  cases e1
  rw [List.nil_append] at *
  rw [ht] at hs1
  repeat (first | (with_reducible refine GL.nil ?_) | (with_reducible refine G.region ?_) | (with_reducible refine G.seq ?_) | (with_reducible refine G.skip ?_) | (with_reducible refine G.block ?_) | (with_reducible refine G.inBlock ?_) | (with_reducible refine G.label ?_) | ((with_reducible show GL _ _ _ _ (_ :: _) _ _ _ _); first | refine GL.p ?_ | refine GL.p (he := by first | (first | exact PEv.eqC rfl rfl rfl rfl | exact PEv.makeIface rfl rfl (by intro ms h; cases h) | exact PEv.neC rfl rfl rfl rfl | exact PEv.buildA rfl rfl rfl | exact PEv.indexArr rfl rfl rfl (by decide) (by decide) rfl rfl | (apply PEv.string rfl rfl; assumption) | (refine PEv.cutStr rfl rfl rfl rfl ?_ ?_ ?_ <;> omega)) | (first | (refine PEv.cutStrTo rfl rfl rfl ?_ ?_ <;> omega) | (refine PEv.cutStrFrom rfl rfl rfl ?_ ?_ <;> omega) | exact PEv.rem128 rfl rfl | exact PEv.quo128 rfl rfl (by omega) | exact PEv.cut2 rfl rfl rfl rfl (by omega) (by omega) (by omega) (by omega))) ?_ | refine GL.store ?_ | refine GL.storeN ?_ | refine GL.boxA (fun g => ?_) | refine GL.box1 (fun g => ?_) | refine GL.alloc1 rfl (fun g => ?_) | refine GL.allocA (fun g => ?_) | refine GL.no ?_) | ((with_reducible show G _ _ _ (Item.code (Code.cond _ _ _) :: _) _ _ _); first | refine G.condT rfl ?_ | refine G.condF rfl ?_ | refine G.condYes rfl (by omega) ?_ | refine G.condNo rfl (by omega) ?_) | (with_reducible refine G.exit rfl ?_))
  refine GL.call rfl rfl (New_calls zW _) .nil fun v s2 h2 hp hle2 => ?_
  obtain ⟨g, e1, h3, rfl⟩ := hp
  subst s2
  cases e1
  rw [List.append_nil]
  repeat (first | (with_reducible refine GL.nil ?_) | (with_reducible refine G.region ?_) | (with_reducible refine G.seq ?_) | (with_reducible refine G.skip ?_) | (with_reducible refine G.block ?_) | (with_reducible refine G.inBlock ?_) | (with_reducible refine G.label ?_) | ((with_reducible show GL _ _ _ _ (_ :: _) _ _ _ _); first | refine GL.p ?_ | refine GL.p (he := by first | (first | exact PEv.eqC rfl rfl rfl rfl | exact PEv.makeIface rfl rfl (by intro ms h; cases h) | exact PEv.neC rfl rfl rfl rfl | exact PEv.buildA rfl rfl rfl | exact PEv.indexArr rfl rfl rfl (by decide) (by decide) rfl rfl | (apply PEv.string rfl rfl; assumption) | (refine PEv.cutStr rfl rfl rfl rfl ?_ ?_ ?_ <;> omega)) | (first | (refine PEv.cutStrTo rfl rfl rfl ?_ ?_ <;> omega) | (refine PEv.cutStrFrom rfl rfl rfl ?_ ?_ <;> omega) | exact PEv.rem128 rfl rfl | exact PEv.quo128 rfl rfl (by omega) | exact PEv.cut2 rfl rfl rfl rfl (by omega) (by omega) (by omega) (by omega))) ?_ | refine GL.store ?_ | refine GL.storeN ?_ | refine GL.boxA (fun g => ?_) | refine GL.box1 (fun g => ?_) | refine GL.alloc1 rfl (fun g => ?_) | refine GL.allocA (fun g => ?_) | refine GL.no ?_) | ((with_reducible show G _ _ _ (Item.code (Code.cond _ _ _) :: _) _ _ _); first | refine G.condT rfl ?_ | refine G.condF rfl ?_ | refine G.condYes rfl (by omega) ?_ | refine G.condNo rfl (by omega) ?_) | (with_reducible refine G.exit rfl ?_))
  refine GL.call rfl rfl (Text_calls g zW 0 false 9 _ (by decide) (by decide)) (by (first | exact Split.refl _ | ((try dsimp only); repeat (first | exact Split.nil | (apply Split.cons; (repeat (first | exact Pick.head | apply Pick.tail))))))) fun v s2 h2 hp hle2 => ?_
  obtain ⟨e1, rfl⟩ := hp
  rw [zW_one] at *
  cases e1
  rw [List.append_nil]
  repeat (first | (with_reducible refine GL.nil ?_) | (with_reducible refine G.region ?_) | (with_reducible refine G.seq ?_) | (with_reducible refine G.skip ?_) | (with_reducible refine G.block ?_) | (with_reducible refine G.inBlock ?_) | (with_reducible refine G.label ?_) | ((with_reducible show GL _ _ _ _ (_ :: _) _ _ _ _); first | refine GL.p ?_ | refine GL.p (he := by first | (first | exact PEv.eqC rfl rfl rfl rfl | exact PEv.makeIface rfl rfl (by intro ms h; cases h) | exact PEv.neC rfl rfl rfl rfl | exact PEv.buildA rfl rfl rfl | exact PEv.indexArr rfl rfl rfl (by decide) (by decide) rfl rfl | (apply PEv.string rfl rfl; assumption) | (refine PEv.cutStr rfl rfl rfl rfl ?_ ?_ ?_ <;> omega)) | (first | (refine PEv.cutStrTo rfl rfl rfl ?_ ?_ <;> omega) | (refine PEv.cutStrFrom rfl rfl rfl ?_ ?_ <;> omega) | exact PEv.rem128 rfl rfl | exact PEv.quo128 rfl rfl (by omega) | exact PEv.cut2 rfl rfl rfl rfl (by omega) (by omega) (by omega) (by omega))) ?_ | refine GL.store ?_ | refine GL.storeN ?_ | refine GL.boxA (fun g => ?_) | refine GL.box1 (fun g => ?_) | refine GL.alloc1 rfl (fun g => ?_) | refine GL.allocA (fun g => ?_) | refine GL.no ?_) | ((with_reducible show G _ _ _ (Item.code (Code.cond _ _ _) :: _) _ _ _); first | refine G.condT rfl ?_ | refine G.condF rfl ?_ | refine G.condYes rfl (by omega) ?_ | refine G.condNo rfl (by omega) ?_) | (with_reducible refine G.exit rfl ?_))
  refine GL.call rfl rfl (Flag_calls g zW 3 false _ (by decide) (by decide)) (by (first | exact Split.refl _ | ((try dsimp only); repeat (first | exact Split.nil | (apply Split.cons; (repeat (first | exact Pick.head | apply Pick.tail))))))) fun v s2 h2 hp hle2 => ?_
  obtain ⟨e1, rfl⟩ := hp
  rw [zW_two] at *
  cases e1
  rw [List.append_nil]
  repeat (first | (with_reducible refine GL.nil ?_) | (with_reducible refine G.region ?_) | (with_reducible refine G.seq ?_) | (with_reducible refine G.skip ?_) | (with_reducible refine G.block ?_) | (with_reducible refine G.inBlock ?_) | (with_reducible refine G.label ?_) | ((with_reducible show GL _ _ _ _ (_ :: _) _ _ _ _); first | refine GL.p ?_ | refine GL.p (he := by first | (first | exact PEv.eqC rfl rfl rfl rfl | exact PEv.makeIface rfl rfl (by intro ms h; cases h) | exact PEv.neC rfl rfl rfl rfl | exact PEv.buildA rfl rfl rfl | exact PEv.indexArr rfl rfl rfl (by decide) (by decide) rfl rfl | (apply PEv.string rfl rfl; assumption) | (refine PEv.cutStr rfl rfl rfl rfl ?_ ?_ ?_ <;> omega)) | (first | (refine PEv.cutStrTo rfl rfl rfl ?_ ?_ <;> omega) | (refine PEv.cutStrFrom rfl rfl rfl ?_ ?_ <;> omega) | exact PEv.rem128 rfl rfl | exact PEv.quo128 rfl rfl (by omega) | exact PEv.cut2 rfl rfl rfl rfl (by omega) (by omega) (by omega) (by omega))) ?_ | refine GL.store ?_ | refine GL.storeN ?_ | refine GL.boxA (fun g => ?_) | refine GL.box1 (fun g => ?_) | refine GL.alloc1 rfl (fun g => ?_) | refine GL.allocA (fun g => ?_) | refine GL.no ?_) | ((with_reducible show G _ _ _ (Item.code (Code.cond _ _ _) :: _) _ _ _); first | refine G.condT rfl ?_ | refine G.condF rfl ?_ | refine G.condYes rfl (by omega) ?_ | refine G.condNo rfl (by omega) ?_) | (with_reducible refine G.exit rfl ?_))
  refine GL.call rfl rfl (End_calls g zW 4 false _) (by (first | exact Split.refl _ | ((try dsimp only); repeat (first | exact Split.nil | (apply Split.cons; (repeat (first | exact Pick.head | apply Pick.tail))))))) fun v s2 h2 hp hle2 => ?_
  obtain ⟨e1, h3, rfl⟩ := hp
  cases e1
  rw [List.append_nil]
  repeat (first | (with_reducible refine GL.nil ?_) | (with_reducible refine G.region ?_) | (with_reducible refine G.seq ?_) | (with_reducible refine G.skip ?_) | (with_reducible refine G.block ?_) | (with_reducible refine G.inBlock ?_) | (with_reducible refine G.label ?_) | ((with_reducible show GL _ _ _ _ (_ :: _) _ _ _ _); first | refine GL.p ?_ | refine GL.p (he := by first | (first | exact PEv.eqC rfl rfl rfl rfl | exact PEv.makeIface rfl rfl (by intro ms h; cases h) | exact PEv.neC rfl rfl rfl rfl | exact PEv.buildA rfl rfl rfl | exact PEv.indexArr rfl rfl rfl (by decide) (by decide) rfl rfl | (apply PEv.string rfl rfl; assumption) | (refine PEv.cutStr rfl rfl rfl rfl ?_ ?_ ?_ <;> omega)) | (first | (refine PEv.cutStrTo rfl rfl rfl ?_ ?_ <;> omega) | (refine PEv.cutStrFrom rfl rfl rfl ?_ ?_ <;> omega) | exact PEv.rem128 rfl rfl | exact PEv.quo128 rfl rfl (by omega) | exact PEv.cut2 rfl rfl rfl rfl (by omega) (by omega) (by omega) (by omega))) ?_ | refine GL.store ?_ | refine GL.storeN ?_ | refine GL.boxA (fun g => ?_) | refine GL.box1 (fun g => ?_) | refine GL.alloc1 rfl (fun g => ?_) | refine GL.allocA (fun g => ?_) | refine GL.no ?_) | ((with_reducible show G _ _ _ (Item.code (Code.cond _ _ _) :: _) _ _ _); first | refine G.condT rfl ?_ | refine G.condF rfl ?_ | refine G.condYes rfl (by omega) ?_ | refine G.condNo rfl (by omega) ?_) | (with_reducible refine G.exit rfl ?_))
  refine G.sub .nil ?_
  refine G.ret1 ok rfl ?_
  exact ⟨rfl, rfl⟩
end Go.Proofs.Ytgggcfhmcelioaa
