/- The readers: numbers, texts, flags. No statement of the seat is proved here. -/
import Derived.Test.YtnndjobhcncanaaF
namespace Go.Proofs.Ytnndjobhcncanaa
open Go.RowKit
/-- A varint.reader in memory. -/
abbrev vrE (g : Nat) (A : Option Addr) (n c : Nat) (i : Int) : Ent := .blk g (.cells [.slice A n c, .int .i64 i].toArray 110 (0, 0))
theorem next_calls (g : Nat) (A : Option Addr) (n c i0 : Nat) (l : List UInt8) (s : Store) (hb : Bs s A n c l) (hi : i0 ≤ n) (hn : n ≤ 140737488351232) :
    Fn Try.prog 73 #[.pointer (some ⟨g, 0, none⟩)] s [vrE g A n c i0] (fun e s' h' => ∃ v ok i1, e = .returned (.tuple #[.int .i64 v, .bool ok]) ∧ s' = s ∧ h' = [vrE g A n c i1] ∧ (∀ x q, vget (l.drop i0) = some (x, q) → ok = true ∧ v = x ∧ i1 = (i0 + q : Nat)) ∧ (vget (l.drop i0) = none → ok = false)) := by
  have hl : l.length = n := by have := hb.len; simpa using this
  refine Fn.intro (args := [.pointer (some ⟨g, 0, none⟩)]) Try.func73 rfl Try.ntmps73 (Nat.le_of_ble_eq_true rfl) (fun C ok hh => ?_)
  repeat (first | (with_reducible first | refine GL.nil ?_ | refine G.region ?_ | refine G.seq ?_ | refine G.skip ?_ | refine G.block ?_ | refine G.inBlock ?_ | refine G.label ?_) | ((with_reducible show GL _ _ _ _ (_ :: _) _ _ _ _); first | refine GL.p ?_ | refine GL.pK ?_ | refine GL.store ?_ | refine GL.storeN ?_ | refine GL.boxA (fun g => ?_) | refine GL.box1 (fun g => ?_) | refine GL.alloc1 rfl (fun g => ?_) | refine GL.allocA (fun g => ?_) | refine GL.no ?_) | ((with_reducible show G _ _ _ (Item.code (Code.cond _ _ _) :: _) _ _ _); first | refine G.condT rfl ?_ | refine G.condF rfl ?_ | refine G.condYes rfl (by omega) ?_ | refine G.condNo rfl (by omega) ?_) | (with_reducible refine G.exit rfl ?_))
  refine G.loop (fun x : Nat × Nat => [(0, .pointer (some ⟨g, 0, none⟩)), (2, .int .i64 x.2), (3, .bool false), (4, .int .i64 ((7 * x.1 : Nat) : Int))]) (fun x => [vrE g A n c ((i0 + x.1 : Nat) : Int)]) (fun x s' => s' = s ∧ x.1 ≤ 6 ∧ i0 + x.1 ≤ n ∧ x.2 < 128 ^ x.1 ∧ vgetAux (l.drop (i0 + x.1)) x.1 x.2 = vget (l.drop i0)) (fun x => 6 - x.1) (0, 0) (by ((repeat' (first | exact trivial | refine And.intro ?_ ?_)); all_goals (first | (refine congrArg some (congrArg (Value.int _) ?_); (try dsimp only); omega) | exact rfl))) (by (first | exact Split.refl _ | ((try dsimp only); repeat (first | exact Split.nil | (apply Split.cons; (repeat (first | exact Pick.head | apply Pick.tail))))))) ⟨rfl, by decide, hi, by decide, rfl⟩ ?_
  rintro ⟨j, acc⟩ s' ⟨rfl, hj, hin, hacc, hv⟩ ih
  dsimp only at hj hin hacc hv ⊢
  by_cases hj6 : j < 6
  · by_cases hlt : i0 + j < n
    · repeat (first | (with_reducible first | refine GL.nil ?_ | refine G.region ?_ | refine G.seq ?_ | refine G.skip ?_ | refine G.block ?_ | refine G.inBlock ?_ | refine G.label ?_) | ((with_reducible show GL _ _ _ _ (_ :: _) _ _ _ _); first | refine GL.p ?_ | refine GL.pK ?_ | refine GL.store ?_ | refine GL.storeN ?_ | refine GL.boxA (fun g => ?_) | refine GL.box1 (fun g => ?_) | refine GL.alloc1 rfl (fun g => ?_) | refine GL.allocA (fun g => ?_) | refine GL.no ?_) | ((with_reducible show G _ _ _ (Item.code (Code.cond _ _ _) :: _) _ _ _); first | refine G.condT rfl ?_ | refine G.condF rfl ?_ | refine G.condYes rfl (by omega) ?_ | refine G.condNo rfl (by omega) ?_) | (with_reducible refine G.exit rfl ?_))
      refine G.draw0 (m := 14) (lay 14 0) follows_mixed ?_
      (first | refine GD.p 0 (lay 14 1) ?_ | refine GD.no 0 (lay 14 1) ?_); (first | refine GD.p 1 (lay 14 3) ?_ | refine GD.no 1 (lay 14 3) ?_); (first | refine GD.p 2 (lay 14 7) ?_ | refine GD.no 2 (lay 14 7) ?_); (first | refine GD.p 3 (lay 14 15) ?_ | refine GD.no 3 (lay 14 15) ?_); (first | refine GD.p 4 (lay 14 31) ?_ | refine GD.no 4 (lay 14 31) ?_); (first | refine GD.p 5 (lay 14 63) ?_ | refine GD.no 5 (lay 14 63) ?_); (first | refine GD.p 6 (lay 14 127) ?_ | refine GD.no 6 (lay 14 127) ?_); (first | refine GD.p 7 (lay 14 255) ?_ | refine GD.no 7 (lay 14 255) ?_); (first | refine GD.p 8 (lay 14 511) ?_ | refine GD.no 8 (lay 14 511) ?_); (first | refine GD.p 9 (lay 14 1023) ?_ | refine GD.no 9 (lay 14 1023) ?_); (first | refine GD.p 10 (lay 14 2047) ?_ | refine GD.no 10 (lay 14 2047) ?_); (first | refine GD.p 11 (lay 14 4095) ?_ | refine GD.no 11 (lay 14 4095) ?_); (first | refine GD.p 12 (lay 14 8191) ?_ | refine GD.no 12 (lay 14 8191) ?_); (first | refine GD.p 13 (lay 14 16383) ?_ | refine GD.no 13 (lay 14 16383) ?_)
      refine GD.nil ?_
      repeat (first | (with_reducible first | refine GL.nil ?_ | refine G.region ?_ | refine G.seq ?_ | refine G.skip ?_ | refine G.block ?_ | refine G.inBlock ?_ | refine G.label ?_) | ((with_reducible show GL _ _ _ _ (_ :: _) _ _ _ _); first | refine GL.p ?_ | refine GL.pK ?_ | refine GL.store ?_ | refine GL.storeN ?_ | refine GL.boxA (fun g => ?_) | refine GL.box1 (fun g => ?_) | refine GL.alloc1 rfl (fun g => ?_) | refine GL.allocA (fun g => ?_) | refine GL.no ?_) | ((with_reducible show G _ _ _ (Item.code (Code.cond _ _ _) :: _) _ _ _); first | refine G.condT rfl ?_ | refine G.condF rfl ?_ | refine G.condYes rfl (by omega) ?_ | refine G.condNo rfl (by omega) ?_) | (with_reducible refine G.exit rfl ?_))
      have hlen : i0 + j < l.length := by omega
      generalize hbe : l[i0 + j] = b
      have hb256 : b.toNat < 256 := b.toNat_lt
      have hbyte : (bcells l)[((i0 + j : Nat) : Int).toNat * 1]? = some (.int .u8 (b.toNat : Nat)) := by
        rw [Int.toNat_natCast, Nat.mul_one, List.getElem?_map, List.getElem?_eq_getElem hlen, hbe]
        rfl
      have hdrop : l.drop (i0 + j) = b :: l.drop (i0 + (j + 1)) := by rw [← hbe, List.drop_eq_getElem_cons hlen]; rfl
      rw [hdrop, vgetAux_cons _ _ _ _ hj6] at hv
      refine G.draw0 (m := 11) (lay 11 0) follows_mixed ?_
      (first | refine GD.p 0 (lay 11 1) ?_ | refine GD.no 0 (lay 11 1) ?_); (first | refine GD.p 1 (lay 11 3) ?_ | refine GD.no 1 (lay 11 3) ?_); (first | refine GD.p 2 (lay 11 7) ?_ | refine GD.no 2 (lay 11 7) ?_); (first | refine GD.p 3 (lay 11 15) ?_ | refine GD.no 3 (lay 11 15) ?_); (first | refine GD.p 4 (lay 11 31) ?_ | refine GD.no 4 (lay 11 31) ?_); (first | refine GD.p 5 (lay 11 63) ?_ | refine GD.no 5 (lay 11 63) ?_); (first | refine GD.p 6 (lay 11 127) ?_ | refine GD.no 6 (lay 11 127) ?_); (first | refine GD.p 7 (lay 11 255) ?_ | refine GD.no 7 (lay 11 255) ?_); (first | refine GD.p 8 (lay 11 511) ?_ | refine GD.no 8 (lay 11 511) ?_); (first | refine GD.p 9 (lay 11 1023) ?_ | refine GD.no 9 (lay 11 1023) ?_); (first | refine GD.p 10 (lay 11 2047) ?_ | refine GD.no 10 (lay 11 2047) ?_)
      refine GD.nil ?_
      repeat (first | (with_reducible first | refine GL.nil ?_ | refine G.region ?_ | refine G.seq ?_ | refine G.skip ?_ | refine G.block ?_ | refine G.inBlock ?_ | refine G.label ?_) | ((with_reducible show GL _ _ _ _ (_ :: _) _ _ _ _); first | refine GL.p ?_ | refine GL.pK ?_ | refine GL.store ?_ | refine GL.storeN ?_ | refine GL.boxA (fun g => ?_) | refine GL.box1 (fun g => ?_) | refine GL.alloc1 rfl (fun g => ?_) | refine GL.allocA (fun g => ?_) | refine GL.no ?_) | ((with_reducible show G _ _ _ (Item.code (Code.cond _ _ _) :: _) _ _ _); first | refine G.condT rfl ?_ | refine G.condF rfl ?_ | refine G.condYes rfl (by omega) ?_ | refine G.condNo rfl (by omega) ?_) | (with_reducible refine G.exit rfl ?_))
      rw [show ((i0 + j : Nat) : Int) + 1 = ((i0 + (j + 1) : Nat) : Int) by omega]
      have hacc' : (acc : Int) < 128 ^ j := by have : ((128 ^ j : Nat) : Int) = (128 : Int) ^ j := by simp
                                               omega
      refine GL.pure rfl (Wants.all rfl) (PEv.shl7 (j := j) rfl rfl rfl (by omega) (by omega) (by omega)) rfl ?_
      refine GL.pure rfl (Wants.all rfl) (PEv.or7 (j := j) rfl rfl rfl (by omega) hacc' (by omega) (by omega) (by omega)) rfl ?_
      have hX1 := vget_grow acc (b.toNat % 128) j hacc (by omega)
      rw [show (acc : Int) + (b.toNat : Int) % 128 * 128 ^ j = ((acc + b.toNat % 128 * 128 ^ j : Nat) : Int) by simp]
      clear hacc'
      generalize acc + b.toNat % 128 * 128 ^ j = X at hv hX1 ⊢
      by_cases hb128 : b.toNat < 128
      · rw [if_pos hb128] at hv
        by_cases hX : X ≤ 1099511627776
        · by_cases hb0 : 0 < b.toNat
          · rw [if_pos ⟨hX, .inl hb0⟩] at hv
            repeat (first | (with_reducible first | refine GL.nil ?_ | refine G.region ?_ | refine G.seq ?_ | refine G.skip ?_ | refine G.block ?_ | refine G.inBlock ?_ | refine G.label ?_) | ((with_reducible show GL _ _ _ _ (_ :: _) _ _ _ _); first | refine GL.p ?_ | refine GL.pK ?_ | refine GL.store ?_ | refine GL.storeN ?_ | refine GL.boxA (fun g => ?_) | refine GL.box1 (fun g => ?_) | refine GL.alloc1 rfl (fun g => ?_) | refine GL.allocA (fun g => ?_) | refine GL.no ?_) | ((with_reducible show G _ _ _ (Item.code (Code.cond _ _ _) :: _) _ _ _); first | refine G.condT rfl ?_ | refine G.condF rfl ?_ | refine G.condYes rfl (by omega) ?_ | refine G.condNo rfl (by omega) ?_) | (with_reducible refine G.exit rfl ?_))
            refine G.ret2 ok rfl ?_
            refine ⟨_, _, _, rfl, rfl, rfl, fun x q h => ?_, fun h => ?_⟩
            · rw [← hv] at h
              cases h
              exact ⟨rfl, rfl, rfl⟩
            · rw [← hv] at h
              cases h
          · by_cases hj0 : j = 0
            · rw [if_pos ⟨hX, .inr hj0⟩] at hv
              repeat (first | (with_reducible first | refine GL.nil ?_ | refine G.region ?_ | refine G.seq ?_ | refine G.skip ?_ | refine G.block ?_ | refine G.inBlock ?_ | refine G.label ?_) | ((with_reducible show GL _ _ _ _ (_ :: _) _ _ _ _); first | refine GL.p ?_ | refine GL.pK ?_ | refine GL.store ?_ | refine GL.storeN ?_ | refine GL.boxA (fun g => ?_) | refine GL.box1 (fun g => ?_) | refine GL.alloc1 rfl (fun g => ?_) | refine GL.allocA (fun g => ?_) | refine GL.no ?_) | ((with_reducible show G _ _ _ (Item.code (Code.cond _ _ _) :: _) _ _ _); first | refine G.condT rfl ?_ | refine G.condF rfl ?_ | refine G.condYes rfl (by omega) ?_ | refine G.condNo rfl (by omega) ?_) | (with_reducible refine G.exit rfl ?_))
              refine G.ret2 ok rfl ?_
              refine ⟨_, _, _, rfl, rfl, rfl, fun x q h => ?_, fun h => ?_⟩
              · rw [← hv] at h
                cases h
                exact ⟨rfl, rfl, rfl⟩
              · rw [← hv] at h
                cases h
            · rw [if_neg (by omega)] at hv
              repeat (first | (with_reducible first | refine GL.nil ?_ | refine G.region ?_ | refine G.seq ?_ | refine G.skip ?_ | refine G.block ?_ | refine G.inBlock ?_ | refine G.label ?_) | ((with_reducible show GL _ _ _ _ (_ :: _) _ _ _ _); first | refine GL.p ?_ | refine GL.pK ?_ | refine GL.store ?_ | refine GL.storeN ?_ | refine GL.boxA (fun g => ?_) | refine GL.box1 (fun g => ?_) | refine GL.alloc1 rfl (fun g => ?_) | refine GL.allocA (fun g => ?_) | refine GL.no ?_) | ((with_reducible show G _ _ _ (Item.code (Code.cond _ _ _) :: _) _ _ _); first | refine G.condT rfl ?_ | refine G.condF rfl ?_ | refine G.condYes rfl (by omega) ?_ | refine G.condNo rfl (by omega) ?_) | (with_reducible refine G.exit rfl ?_))
              refine G.ret2 ok rfl ?_
              exact ⟨_, _, _, rfl, rfl, rfl, fun x q h => (by rw [← hv] at h; cases h), fun _ => rfl⟩
        · rw [if_neg (by omega)] at hv
          repeat (first | (with_reducible first | refine GL.nil ?_ | refine G.region ?_ | refine G.seq ?_ | refine G.skip ?_ | refine G.block ?_ | refine G.inBlock ?_ | refine G.label ?_) | ((with_reducible show GL _ _ _ _ (_ :: _) _ _ _ _); first | refine GL.p ?_ | refine GL.pK ?_ | refine GL.store ?_ | refine GL.storeN ?_ | refine GL.boxA (fun g => ?_) | refine GL.box1 (fun g => ?_) | refine GL.alloc1 rfl (fun g => ?_) | refine GL.allocA (fun g => ?_) | refine GL.no ?_) | ((with_reducible show G _ _ _ (Item.code (Code.cond _ _ _) :: _) _ _ _); first | refine G.condT rfl ?_ | refine G.condF rfl ?_ | refine G.condYes rfl (by omega) ?_ | refine G.condNo rfl (by omega) ?_) | (with_reducible refine G.exit rfl ?_))
          refine G.ret2 ok rfl ?_
          exact ⟨_, _, _, rfl, rfl, rfl, fun x q h => (by rw [← hv] at h; cases h), fun _ => rfl⟩
      · rw [if_neg hb128] at hv
        repeat (first | (with_reducible first | refine GL.nil ?_ | refine G.region ?_ | refine G.seq ?_ | refine G.skip ?_ | refine G.block ?_ | refine G.inBlock ?_ | refine G.label ?_) | ((with_reducible show GL _ _ _ _ (_ :: _) _ _ _ _); first | refine GL.p ?_ | refine GL.pK ?_ | refine GL.store ?_ | refine GL.storeN ?_ | refine GL.boxA (fun g => ?_) | refine GL.box1 (fun g => ?_) | refine GL.alloc1 rfl (fun g => ?_) | refine GL.allocA (fun g => ?_) | refine GL.no ?_) | ((with_reducible show G _ _ _ (Item.code (Code.cond _ _ _) :: _) _ _ _); first | refine G.condT rfl ?_ | refine G.condF rfl ?_ | refine G.condYes rfl (by omega) ?_ | refine G.condNo rfl (by omega) ?_) | (with_reducible refine G.exit rfl ?_))
        exact ih (j + 1, X) _ _ _ _ (by ((repeat' (first | exact trivial | refine And.intro ?_ ?_)); all_goals (first | (refine congrArg some (congrArg (Value.int _) ?_); (try dsimp only); omega) | exact rfl))) (by (first | exact Split.refl _ | ((try dsimp only); repeat (first | exact Split.nil | (apply Split.cons; (repeat (first | exact Pick.head | apply Pick.tail))))))) ⟨rfl, hj6, (by dsimp only; omega), hX1, hv⟩ (by dsimp only; omega)
    · have hdrop : l.drop (i0 + j) = [] := List.drop_eq_nil_of_le (by omega)
      rw [hdrop] at hv
      repeat (first | (with_reducible first | refine GL.nil ?_ | refine G.region ?_ | refine G.seq ?_ | refine G.skip ?_ | refine G.block ?_ | refine G.inBlock ?_ | refine G.label ?_) | ((with_reducible show GL _ _ _ _ (_ :: _) _ _ _ _); first | refine GL.p ?_ | refine GL.pK ?_ | refine GL.store ?_ | refine GL.storeN ?_ | refine GL.boxA (fun g => ?_) | refine GL.box1 (fun g => ?_) | refine GL.alloc1 rfl (fun g => ?_) | refine GL.allocA (fun g => ?_) | refine GL.no ?_) | ((with_reducible show G _ _ _ (Item.code (Code.cond _ _ _) :: _) _ _ _); first | refine G.condT rfl ?_ | refine G.condF rfl ?_ | refine G.condYes rfl (by omega) ?_ | refine G.condNo rfl (by omega) ?_) | (with_reducible refine G.exit rfl ?_))
      refine G.draw0 (m := 14) (lay 14 0) follows_mixed ?_
      (first | refine GD.p 0 (lay 14 1) ?_ | refine GD.no 0 (lay 14 1) ?_); (first | refine GD.p 1 (lay 14 3) ?_ | refine GD.no 1 (lay 14 3) ?_); (first | refine GD.p 2 (lay 14 7) ?_ | refine GD.no 2 (lay 14 7) ?_); (first | refine GD.p 3 (lay 14 15) ?_ | refine GD.no 3 (lay 14 15) ?_); (first | refine GD.p 4 (lay 14 31) ?_ | refine GD.no 4 (lay 14 31) ?_); (first | refine GD.p 5 (lay 14 63) ?_ | refine GD.no 5 (lay 14 63) ?_); (first | refine GD.p 6 (lay 14 127) ?_ | refine GD.no 6 (lay 14 127) ?_); (first | refine GD.p 7 (lay 14 255) ?_ | refine GD.no 7 (lay 14 255) ?_); (first | refine GD.p 8 (lay 14 511) ?_ | refine GD.no 8 (lay 14 511) ?_); (first | refine GD.p 9 (lay 14 1023) ?_ | refine GD.no 9 (lay 14 1023) ?_); (first | refine GD.p 10 (lay 14 2047) ?_ | refine GD.no 10 (lay 14 2047) ?_); (first | refine GD.p 11 (lay 14 4095) ?_ | refine GD.no 11 (lay 14 4095) ?_); (first | refine GD.p 12 (lay 14 8191) ?_ | refine GD.no 12 (lay 14 8191) ?_); (first | refine GD.p 13 (lay 14 16383) ?_ | refine GD.no 13 (lay 14 16383) ?_)
      refine GD.nil ?_
      repeat (first | (with_reducible first | refine GL.nil ?_ | refine G.region ?_ | refine G.seq ?_ | refine G.skip ?_ | refine G.block ?_ | refine G.inBlock ?_ | refine G.label ?_) | ((with_reducible show GL _ _ _ _ (_ :: _) _ _ _ _); first | refine GL.p ?_ | refine GL.pK ?_ | refine GL.store ?_ | refine GL.storeN ?_ | refine GL.boxA (fun g => ?_) | refine GL.box1 (fun g => ?_) | refine GL.alloc1 rfl (fun g => ?_) | refine GL.allocA (fun g => ?_) | refine GL.no ?_) | ((with_reducible show G _ _ _ (Item.code (Code.cond _ _ _) :: _) _ _ _); first | refine G.condT rfl ?_ | refine G.condF rfl ?_ | refine G.condYes rfl (by omega) ?_ | refine G.condNo rfl (by omega) ?_) | (with_reducible refine G.exit rfl ?_))
      refine G.ret2 ok rfl ?_
      exact ⟨_, _, _, rfl, rfl, rfl, fun x q h => (by rw [← hv] at h; cases h), fun _ => rfl⟩
  · obtain rfl : j = 6 := by omega
    rw [vgetAux_six] at hv
    repeat (first | (with_reducible first | refine GL.nil ?_ | refine G.region ?_ | refine G.seq ?_ | refine G.skip ?_ | refine G.block ?_ | refine G.inBlock ?_ | refine G.label ?_) | ((with_reducible show GL _ _ _ _ (_ :: _) _ _ _ _); first | refine GL.p ?_ | refine GL.pK ?_ | refine GL.store ?_ | refine GL.storeN ?_ | refine GL.boxA (fun g => ?_) | refine GL.box1 (fun g => ?_) | refine GL.alloc1 rfl (fun g => ?_) | refine GL.allocA (fun g => ?_) | refine GL.no ?_) | ((with_reducible show G _ _ _ (Item.code (Code.cond _ _ _) :: _) _ _ _); first | refine G.condT rfl ?_ | refine G.condF rfl ?_ | refine G.condYes rfl (by omega) ?_ | refine G.condNo rfl (by omega) ?_) | (with_reducible refine G.exit rfl ?_))
    refine G.draw0 (m := 14) (lay 14 0) follows_mixed ?_
    (first | refine GD.p 0 (lay 14 1) ?_ | refine GD.no 0 (lay 14 1) ?_); (first | refine GD.p 1 (lay 14 3) ?_ | refine GD.no 1 (lay 14 3) ?_); (first | refine GD.p 2 (lay 14 7) ?_ | refine GD.no 2 (lay 14 7) ?_); (first | refine GD.p 3 (lay 14 15) ?_ | refine GD.no 3 (lay 14 15) ?_); (first | refine GD.p 4 (lay 14 31) ?_ | refine GD.no 4 (lay 14 31) ?_); (first | refine GD.p 5 (lay 14 63) ?_ | refine GD.no 5 (lay 14 63) ?_); (first | refine GD.p 6 (lay 14 127) ?_ | refine GD.no 6 (lay 14 127) ?_); (first | refine GD.p 7 (lay 14 255) ?_ | refine GD.no 7 (lay 14 255) ?_); (first | refine GD.p 8 (lay 14 511) ?_ | refine GD.no 8 (lay 14 511) ?_); (first | refine GD.p 9 (lay 14 1023) ?_ | refine GD.no 9 (lay 14 1023) ?_); (first | refine GD.p 10 (lay 14 2047) ?_ | refine GD.no 10 (lay 14 2047) ?_); (first | refine GD.p 11 (lay 14 4095) ?_ | refine GD.no 11 (lay 14 4095) ?_); (first | refine GD.p 12 (lay 14 8191) ?_ | refine GD.no 12 (lay 14 8191) ?_); (first | refine GD.p 13 (lay 14 16383) ?_ | refine GD.no 13 (lay 14 16383) ?_)
    refine GD.nil ?_
    repeat (first | (with_reducible first | refine GL.nil ?_ | refine G.region ?_ | refine G.seq ?_ | refine G.skip ?_ | refine G.block ?_ | refine G.inBlock ?_ | refine G.label ?_) | ((with_reducible show GL _ _ _ _ (_ :: _) _ _ _ _); first | refine GL.p ?_ | refine GL.pK ?_ | refine GL.store ?_ | refine GL.storeN ?_ | refine GL.boxA (fun g => ?_) | refine GL.box1 (fun g => ?_) | refine GL.alloc1 rfl (fun g => ?_) | refine GL.allocA (fun g => ?_) | refine GL.no ?_) | ((with_reducible show G _ _ _ (Item.code (Code.cond _ _ _) :: _) _ _ _); first | refine G.condT rfl ?_ | refine G.condF rfl ?_ | refine G.condYes rfl (by omega) ?_ | refine G.condNo rfl (by omega) ?_) | (with_reducible refine G.exit rfl ?_))
    refine G.ret2 ok rfl ?_
    exact ⟨_, _, _, rfl, rfl, rfl, fun x q h => (by rw [← hv] at h; cases h), fun _ => rfl⟩
end Go.Proofs.Ytnndjobhcncanaa
