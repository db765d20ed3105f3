/- The document's answer to reading: its readers. No statement of the seat is proved here. -/
import Derived.Test.YtnndjobhcncanaaX1
import Derived.Test.YtnndjobhcncanaaR7
import Derived.Test.YtnndjobhcncanaaV4
namespace Go.Proofs.Ytnndjobhcncanaa
open Go.RowKit
/-- A rovingref02.Reader in memory. -/
abbrev rdF (g : Nat) (z : ByteArray) (i : Nat) (bad : Bool) : Ent := .blk g (.cells [.string z, .int .i64 i, .bool bad].toArray 84 (0, 0))
set_option maxRecDepth 20000 in
set_option maxHeartbeats 8000000 in
theorem NumberR_calls (g : Nat) (z : ByteArray) (i0 : Nat) (bad : Bool) (a b : Int) (s : Store) (hi : i0 ≤ z.size) (hz : z.size ≤ 140737488351232) :
    Fn Try.prog 51 #[.pointer (some ⟨g, 0, none⟩), .int .i64 a, .int .i64 b] s [rdF g z i0 bad] (fun e _ h2 => e = .returned (.int .i64 (rdNum z.data.toList i0 bad a b).1) ∧ h2 = [rdF g z (rdNum z.data.toList i0 bad a b).2.1 (rdNum z.data.toList i0 bad a b).2.2]) := by
  refine Fn.intro (args := [.pointer (some ⟨g, 0, none⟩), .int .i64 a, .int .i64 b]) Try.func51 rfl Try.ntmps51 (Nat.le_of_ble_eq_true rfl) (fun C ok hh => ?_)
  cases bad with
  | true =>
    repeat (first | (with_reducible first | refine GL.nil ?_ | refine G.region ?_ | refine G.seq ?_ | refine G.skip ?_ | refine G.block ?_ | refine G.inBlock ?_ | refine G.label ?_) | ((with_reducible show GL _ _ _ _ (_ :: _) _ _ _ _); first | refine GL.p ?_ | refine GL.pK ?_ | refine GL.store ?_ | refine GL.storeN ?_ | refine GL.boxA (fun g => ?_) | refine GL.box1 (fun g => ?_) | refine GL.alloc1 rfl (fun g => ?_) | refine GL.allocA (fun g => ?_) | refine GL.no ?_) | ((with_reducible show G _ _ _ (Item.code (Code.cond _ _ _) :: _) _ _ _); first | refine G.condT rfl ?_ | refine G.condF rfl ?_ | refine G.condYes rfl (by omega) ?_ | refine G.condNo rfl (by omega) ?_) | (with_reducible refine G.exit rfl ?_))
    refine G.ret1 ok rfl ?_
    exact ⟨rfl, rfl⟩
  | false =>
    repeat (first | (with_reducible first | refine GL.nil ?_ | refine G.region ?_ | refine G.seq ?_ | refine G.skip ?_ | refine G.block ?_ | refine G.inBlock ?_ | refine G.label ?_) | ((with_reducible show GL _ _ _ _ (_ :: _) _ _ _ _); first | refine GL.p ?_ | refine GL.pK ?_ | refine GL.store ?_ | refine GL.storeN ?_ | refine GL.boxA (fun g => ?_) | refine GL.box1 (fun g => ?_) | refine GL.alloc1 rfl (fun g => ?_) | refine GL.allocA (fun g => ?_) | refine GL.no ?_) | ((with_reducible show G _ _ _ (Item.code (Code.cond _ _ _) :: _) _ _ _); first | refine G.condT rfl ?_ | refine G.condF rfl ?_ | refine G.condYes rfl (by omega) ?_ | refine G.condNo rfl (by omega) ?_) | (with_reducible refine G.exit rfl ?_))
    refine G.draw0 (m := 17) (lay 17 0) follows_mixed ?_
    (first | refine GD.p 0 (lay 17 1) ?_ | refine GD.no 0 (lay 17 1) ?_ | refine GD.pK 0 (lay 17 1) ?_); (first | refine GD.p 1 (lay 17 3) ?_ | refine GD.no 1 (lay 17 3) ?_ | refine GD.pK 1 (lay 17 3) ?_); (first | refine GD.p 2 (lay 17 7) ?_ | refine GD.no 2 (lay 17 7) ?_ | refine GD.pK 2 (lay 17 7) ?_); (first | refine GD.p 3 (lay 17 15) ?_ | refine GD.no 3 (lay 17 15) ?_ | refine GD.pK 3 (lay 17 15) ?_); (first | refine GD.p 5 (lay 17 47) ?_ | refine GD.no 5 (lay 17 47) ?_ | refine GD.pK 5 (lay 17 47) ?_); (first | refine GD.p 6 (lay 17 111) ?_ | refine GD.no 6 (lay 17 111) ?_ | refine GD.pK 6 (lay 17 111) ?_); (first | refine GD.p 7 (lay 17 239) ?_ | refine GD.no 7 (lay 17 239) ?_ | refine GD.pK 7 (lay 17 239) ?_); (first | refine GD.p 8 (lay 17 495) ?_ | refine GD.no 8 (lay 17 495) ?_ | refine GD.pK 8 (lay 17 495) ?_)
    refine GD.bytes 4 (lay 17 511) rfl rfl rfl (by omega) fun A c s1 hle1 hs1 => ?_
    refine GD.call 9 (lay 17 1023) rfl rfl rfl (getR_calls A z.size c i0 _ _ hs1 hi hz) .nil (fun v s2 h2 hp hle2 => ?_) (fun v s2 h2 hp => ?_)
    rotate_left
    · rcases hp with ⟨x, q, -, -, -, rfl⟩ | ⟨-, -, -, rfl⟩ <;> exact ⟨_, Split.refl _⟩
    rcases hp with ⟨x, q, hv, e1, h3, rfl⟩ | ⟨hv, e1, h3, rfl⟩
    · subst s2
      cases e1
      rw [List.nil_append]
      have hle3 := hle1.trans hle2
      (first | refine GD.p 10 (lay 17 2047) ?_ | refine GD.no 10 (lay 17 2047) ?_ | refine GD.pK 10 (lay 17 2047) ?_); (first | refine GD.p 11 (lay 17 4095) ?_ | refine GD.no 11 (lay 17 4095) ?_ | refine GD.pK 11 (lay 17 4095) ?_); (first | refine GD.p 12 (lay 17 8191) ?_ | refine GD.no 12 (lay 17 8191) ?_ | refine GD.pK 12 (lay 17 8191) ?_); (first | refine GD.p 13 (lay 17 16383) ?_ | refine GD.no 13 (lay 17 16383) ?_ | refine GD.pK 13 (lay 17 16383) ?_); (first | refine GD.p 14 (lay 17 32767) ?_ | refine GD.no 14 (lay 17 32767) ?_ | refine GD.pK 14 (lay 17 32767) ?_); (first | refine GD.p 15 (lay 17 65535) ?_ | refine GD.no 15 (lay 17 65535) ?_ | refine GD.pK 15 (lay 17 65535) ?_); (first | refine GD.p 16 (lay 17 131071) ?_ | refine GD.no 16 (lay 17 131071) ?_ | refine GD.pK 16 (lay 17 131071) ?_)
      refine GD.nil ?_
      by_cases ha : (x : Int) < a
      · have hn : rdNum z.data.toList i0 false a b = (0, i0, true) := rdNum_none (by rw [numR, hv]; exact if_neg (fun h => by omega))
        repeat (first | (with_reducible first | refine GL.nil ?_ | refine G.region ?_ | refine G.seq ?_ | refine G.skip ?_ | refine G.block ?_ | refine G.inBlock ?_ | refine G.label ?_) | ((with_reducible show GL _ _ _ _ (_ :: _) _ _ _ _); first | refine GL.p ?_ | refine GL.pK ?_ | refine GL.store ?_ | refine GL.storeN ?_ | refine GL.boxA (fun g => ?_) | refine GL.box1 (fun g => ?_) | refine GL.alloc1 rfl (fun g => ?_) | refine GL.allocA (fun g => ?_) | refine GL.no ?_) | ((with_reducible show G _ _ _ (Item.code (Code.cond _ _ _) :: _) _ _ _); first | refine G.condT rfl ?_ | refine G.condF rfl ?_ | refine G.condYes rfl (by omega) ?_ | refine G.condNo rfl (by omega) ?_) | (with_reducible refine G.exit rfl ?_))
        refine G.ret1 ok rfl ?_
        exact ⟨by rw [hn] <;> rfl, by rw [hn] <;> rfl⟩
      by_cases hb : b < (x : Int)
      · have hn : rdNum z.data.toList i0 false a b = (0, i0, true) := rdNum_none (by rw [numR, hv]; exact if_neg (fun h => by omega))
        repeat (first | (with_reducible first | refine GL.nil ?_ | refine G.region ?_ | refine G.seq ?_ | refine G.skip ?_ | refine G.block ?_ | refine G.inBlock ?_ | refine G.label ?_) | ((with_reducible show GL _ _ _ _ (_ :: _) _ _ _ _); first | refine GL.p ?_ | refine GL.pK ?_ | refine GL.store ?_ | refine GL.storeN ?_ | refine GL.boxA (fun g => ?_) | refine GL.box1 (fun g => ?_) | refine GL.alloc1 rfl (fun g => ?_) | refine GL.allocA (fun g => ?_) | refine GL.no ?_) | ((with_reducible show G _ _ _ (Item.code (Code.cond _ _ _) :: _) _ _ _); first | refine G.condT rfl ?_ | refine G.condF rfl ?_ | refine G.condYes rfl (by omega) ?_ | refine G.condNo rfl (by omega) ?_) | (with_reducible refine G.exit rfl ?_))
        refine G.ret1 ok rfl ?_
        exact ⟨by rw [hn] <;> rfl, by rw [hn] <;> rfl⟩
      · have hn : rdNum z.data.toList i0 false a b = (x, i0 + q, false) := rdNum_some (by rw [numR, hv]; exact if_pos ⟨by omega, by omega⟩)
        repeat (first | (with_reducible first | refine GL.nil ?_ | refine G.region ?_ | refine G.seq ?_ | refine G.skip ?_ | refine G.block ?_ | refine G.inBlock ?_ | refine G.label ?_) | ((with_reducible show GL _ _ _ _ (_ :: _) _ _ _ _); first | refine GL.p ?_ | refine GL.pK ?_ | refine GL.store ?_ | refine GL.storeN ?_ | refine GL.boxA (fun g => ?_) | refine GL.box1 (fun g => ?_) | refine GL.alloc1 rfl (fun g => ?_) | refine GL.allocA (fun g => ?_) | refine GL.no ?_) | ((with_reducible show G _ _ _ (Item.code (Code.cond _ _ _) :: _) _ _ _); first | refine G.condT rfl ?_ | refine G.condF rfl ?_ | refine G.condYes rfl (by omega) ?_ | refine G.condNo rfl (by omega) ?_) | (with_reducible refine G.exit rfl ?_))
        refine G.ret1 ok rfl ?_
        exact ⟨by rw [hn] <;> rfl, by rw [hn] <;> rfl⟩
    · subst s2
      cases e1
      rw [List.nil_append]
      have hle3 := hle1.trans hle2
      (first | refine GD.p 10 (lay 17 2047) ?_ | refine GD.no 10 (lay 17 2047) ?_ | refine GD.pK 10 (lay 17 2047) ?_); (first | refine GD.p 11 (lay 17 4095) ?_ | refine GD.no 11 (lay 17 4095) ?_ | refine GD.pK 11 (lay 17 4095) ?_); (first | refine GD.p 12 (lay 17 8191) ?_ | refine GD.no 12 (lay 17 8191) ?_ | refine GD.pK 12 (lay 17 8191) ?_); (first | refine GD.p 13 (lay 17 16383) ?_ | refine GD.no 13 (lay 17 16383) ?_ | refine GD.pK 13 (lay 17 16383) ?_); (first | refine GD.p 14 (lay 17 32767) ?_ | refine GD.no 14 (lay 17 32767) ?_ | refine GD.pK 14 (lay 17 32767) ?_); (first | refine GD.p 15 (lay 17 65535) ?_ | refine GD.no 15 (lay 17 65535) ?_ | refine GD.pK 15 (lay 17 65535) ?_); (first | refine GD.p 16 (lay 17 131071) ?_ | refine GD.no 16 (lay 17 131071) ?_ | refine GD.pK 16 (lay 17 131071) ?_)
      refine GD.nil ?_
      have hn : rdNum z.data.toList i0 false a b = (0, i0, true) := rdNum_none (by rw [numR, hv])
      repeat (first | (with_reducible first | refine GL.nil ?_ | refine G.region ?_ | refine G.seq ?_ | refine G.skip ?_ | refine G.block ?_ | refine G.inBlock ?_ | refine G.label ?_) | ((with_reducible show GL _ _ _ _ (_ :: _) _ _ _ _); first | refine GL.p ?_ | refine GL.pK ?_ | refine GL.store ?_ | refine GL.storeN ?_ | refine GL.boxA (fun g => ?_) | refine GL.box1 (fun g => ?_) | refine GL.alloc1 rfl (fun g => ?_) | refine GL.allocA (fun g => ?_) | refine GL.no ?_) | ((with_reducible show G _ _ _ (Item.code (Code.cond _ _ _) :: _) _ _ _); first | refine G.condT rfl ?_ | refine G.condF rfl ?_ | refine G.condYes rfl (by omega) ?_ | refine G.condNo rfl (by omega) ?_) | (with_reducible refine G.exit rfl ?_))
      refine G.ret1 ok rfl ?_
      exact ⟨by rw [hn] <;> rfl, by rw [hn] <;> rfl⟩
theorem flag_numR {l : List UInt8} {i : Nat} (h : i < l.length) : numR l i 0 1 = if l[i].toNat ≤ 1 then some (l[i].toNat, i + 1) else none := by
  split
  · rename_i h1
    have hd : l.drop i = venc l[i].toNat ++ l.drop (i + 1) := by
      rw [venc_one _ (by omega), List.drop_eq_getElem_cons h]
      simp
    have := numR_of (a := 0) (b := 1) hd (by omega) (by omega) (by omega)
    rw [vlen_one _ (by omega)] at this
    exact this
  · rename_i h1
    cases hn : numR l i 0 1 with
    | none => rfl
    | some p =>
      obtain ⟨x, i1⟩ := p
      obtain ⟨h2, h3, h4, h5, h6⟩ := numR_inv hn
      rw [venc_one _ (by omega), List.drop_eq_getElem_cons h] at h2
      simp only [List.cons_append, List.nil_append, List.cons.injEq] at h2
      rw [h2.1] at h1
      simp at h1
      omega
theorem flag_end {l : List UInt8} {i : Nat} (h : l.length ≤ i) : numR l i 0 1 = none := by
  rw [numR, List.drop_eq_nil_of_le h]
  rfl
end Go.Proofs.Ytnndjobhcncanaa
