/- The readers: something is tried. No statement of the seat is proved here. -/
import Derived.Test.YtnndjobhcncanaaR3
namespace Go.Proofs.Ytnndjobhcncanaa
open Go.RowKit
set_option maxHeartbeats 8000000 in
theorem try_calls (gR : Nat) (z : ByteArray) (i0 gid : Nat) (fs cs : List Value) (hh : List Ent) (Q : Store → List Ent → Int → Prop) (B : List Ent → Prop) (s : Store) [en : Enters Try.prog gid]
    (hread : ∀ s', s.le s' → Fn Try.prog gid (fs ++ [] ++ cs).toArray s' (rdE gR z i0 false :: hh) (fun e s2 h2 => (∃ x, e = .returned (.int .i64 x) ∧ Q s2 h2 x) ∨ (∃ j hx, e = .panicked chR ∧ h2 = rdE gR z j false :: hx ∧ B hx))) :
    Fn Try.prog 68 #[.pointer (some ⟨gR, 0, none⟩), .func (.func gid) fs.toArray cs.toArray] s (rdE gR z i0 false :: hh) (fun e s2 h2 => (∃ x, e = .returned (.int .i64 x) ∧ Q s2 h2 x) ∨ (∃ hx, e = .returned (.int .i64 0) ∧ h2 = rdE gR z i0 true :: hx ∧ B hx)) := by
  refine Fn.intro (args := [.pointer (some ⟨gR, 0, none⟩), .func (.func gid) fs.toArray cs.toArray]) Try.func68 rfl Try.ntmps68 (Nat.le_of_ble_eq_true rfl) (fun C ok hh' => ?_)
  repeat (first | (refine G.defer (PEv.makeFunc rfl rfl rfl) rfl rfl rfl rfl rfl rfl ?_) | (with_reducible first | refine GL.nil ?_ | refine G.region ?_ | refine G.seq ?_ | refine G.skip ?_ | refine G.block ?_ | refine G.inBlock ?_ | refine G.label ?_) | ((with_reducible show GL _ _ _ _ (_ :: _) _ _ _ _); first | refine GL.p ?_ | refine GL.pK ?_ | refine GL.store ?_ | refine GL.storeN ?_ | refine GL.boxA (fun g => ?_) | refine GL.box1 (fun g => ?_) | refine GL.alloc1 rfl (fun g => ?_) | refine GL.allocA (fun g => ?_) | refine GL.no ?_) | ((with_reducible show G _ _ _ (Item.code (Code.cond _ _ _) :: _) _ _ _); first | refine G.condT rfl ?_ | refine G.condF rfl ?_ | refine G.condYes rfl (by omega) ?_ | refine G.condNo rfl (by omega) ?_) | (with_reducible refine G.exit rfl ?_))
  rename_i g2 g3
  have hcD : C.D = [] := ok.D
  have hfc : Try.prog.funcs[C.fid]? = some C.fn := by rw [ok.fid, ok.fn]; exact ok.fc
  refine GL.callVP (ts := #[]) (xs := []) rfl rfl rfl (hread s (Store.le.refl _)) (.cons (.tail (.tail (.tail .head))) (Split.pre [_, _, _] hh)) (fun v s2 h2 hp hle => ?_) (fun ch s2 h2 hp hle => ?_) (fun s2 h2 hp => ?_)
  · rcases hp with ⟨x, e1, hq⟩ | ⟨j, hx, e1, _, _⟩
    · cases e1
      refine GL.perm List.perm_append_comm ?_
      repeat (first | (with_reducible first | refine GL.nil ?_ | refine G.region ?_ | refine G.seq ?_ | refine G.skip ?_ | refine G.block ?_ | refine G.inBlock ?_ | refine G.label ?_) | ((with_reducible show GL _ _ _ _ (_ :: _) _ _ _ _); first | refine GL.p ?_ | refine GL.pK ?_ | refine GL.store ?_ | refine GL.storeN ?_ | refine GL.boxA (fun g => ?_) | refine GL.box1 (fun g => ?_) | refine GL.alloc1 rfl (fun g => ?_) | refine GL.allocA (fun g => ?_) | refine GL.no ?_) | ((with_reducible show G _ _ _ (Item.code (Code.cond _ _ _) :: _) _ _ _); first | refine G.condT rfl ?_ | refine G.condF rfl ?_ | refine G.condYes rfl (by omega) ?_ | refine G.condNo rfl (by omega) ?_) | (with_reducible refine G.exit rfl ?_))
      refine G.leave (GR.deferred (v := .int .i64 x) (h1 := [.blk g3 (.cells [.int .i64 x].toArray 3 (0, 0)), .blk g (.cells [.int .i64 i0].toArray 3 (0, 0)), .blk g2 (.cells [.pointer (some ⟨gR, 0, none⟩)].toArray 75 (0, 0))]) (h1' := [.blk g3 (.cells [.int .i64 x].toArray 3 (0, 0)), .blk g (.cells [.int .i64 i0].toArray 3 (0, 0)), .blk g2 (.cells [.pointer (some ⟨gR, 0, none⟩)].toArray 75 (0, 0))]) (r := h2) (h3 := h2) (s2 := s2) (by show _ :: C.D = _; rw [hcD]) hfc (by simp) (by simp) (List.Perm.refl _) (fun w m => CallsD.mono_ (try1_ret [.pointer (some ⟨g, 0, none⟩), .pointer (some ⟨g2, 0, none⟩), .pointer (some ⟨g3, 0, none⟩)] (Nat.le_of_ble_eq_true rfl) w) ?_) ?_ (Split.pre _ h2) ?_)
      · rintro e u' w' ⟨rfl, rfl, rfl⟩
        exact ⟨⟨_, rfl⟩, rfl, Cur.start m⟩
      · show resOf _ _ _ C.fn _
        rw [ok.fn]
        exact res1c rfl rfl rfl (List.Mem.head _)
      · show C.post _ _ _
        rw [ok.post]
        exact .inl ⟨x, rfl, hq⟩
    · cases e1
  · rcases hp with ⟨x, e1, _⟩ | ⟨j, hx, e1, rfl, hb⟩
    · cases e1
    · cases e1
      refine GR.deferred (v := .int .i64 0) (h1 := [.blk g (.cells [.int .i64 i0].toArray 3 (0, 0)), .blk g2 (.cells [.pointer (some ⟨gR, 0, none⟩)].toArray 75 (0, 0)), .blk g3 (.cells [.int .i64 0].toArray 3 (0, 0)), rdE gR z j false]) (r := hx) (h1' := [.blk g3 (.cells [.int .i64 0].toArray 3 (0, 0)), rdE gR z i0 true, .blk g (.cells [.int .i64 i0].toArray 3 (0, 0)), .blk g2 (.cells [.pointer (some ⟨gR, 0, none⟩)].toArray 75 (0, 0))]) (h3 := rdE gR z i0 true :: hx) (s2 := s2) (by show _ :: C.D = _; rw [hcD]) hfc (by simp) (by simp) ?_ (fun w m => try1_panic g g2 g3 gR z i0 j 0 s2 w m) ?_ (.cons (.tail .head) (Split.pre [_, _, _] hx)) ?_
      · simp only [List.cons_append, List.nil_append]
        refine (List.Perm.cons _ List.perm_append_comm).trans ?_
        simp only [List.cons_append, List.nil_append]
        refine (List.Perm.swap _ _ _).trans (List.Perm.cons _ ?_)
        refine (List.Perm.cons _ (List.Perm.swap _ _ _)).trans ?_
        refine (List.Perm.swap _ _ _).trans (List.Perm.cons _ ?_)
        exact List.Perm.swap _ _ _
      · show resOf _ _ _ C.fn _
        rw [ok.fn]
        exact res1c rfl rfl rfl (List.Mem.head _)
      · show C.post _ _ _
        rw [ok.post]
        exact .inr ⟨hx, rfl, rfl, hb⟩
  · rcases hp with ⟨x, e1, _⟩ | ⟨j, hx, e1, _⟩ <;> cases e1
end Go.Proofs.Ytnndjobhcncanaa
