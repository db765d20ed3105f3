/- The document's answer to reading: Get. No statement of the seat is proved here. -/
import Derived.Test.YtnndjobhcncanaaR2
import Derived.Test.YtnndjobhcncanaaN1
namespace Go.Proofs.Ytnndjobhcncanaa
open Go.RowKit
section
variable {P : Program} {f : Fr} {s : Store} {h : List Ent} {o : Oper} {v : Value}
theorem PEv.rem8 {t t' : TypeId} {x : Operand} {m : Nat} (ho : o.op = .binOp .rem t x (.const (.int .u8 128)) t') (hx : f.val x = some (.int .u8 (m : Int))) : PEv P f s h o (.int .u8 ((m % 128 : Nat) : Int)) :=
  PEv.binI ho hx rfl fun w => by
    have : (m : Int).tmod 128 = ((m % 128 : Nat) : Int) := rfl
    simp [binOp, Op.intDiv, this]
end
set_option maxHeartbeats 8000000 in
set_option maxRecDepth 20000 in
theorem getR_calls (A : Option Addr) (n c i0 : Nat) (l : List UInt8) (s : Store) (hb : Bs s A n c l) (hi : i0 ≤ n) (hn : n ≤ 140737488351232) :
    Fn Try.prog 64 #[.slice A n c, .int .i64 i0] s [] (fun e s' h' => (∃ x q : Nat, vget (l.drop i0) = some (x, q) ∧ e = .returned (.tuple #[.int .i64 x, .int .i64 (i0 + q : Nat), .int .i64 0]) ∧ s' = s ∧ h' = []) ∨ (vget (l.drop i0) = none ∧ e = .returned (.tuple #[.int .i64 0, .int .i64 0, .int .i64 70]) ∧ s' = s ∧ h' = [])) := by
  have hcap := hb.cap
  have hl : l.length = n := by have := hb.len; simpa using this
  refine Fn.intro (args := [.slice A n c, .int .i64 i0]) Try.func64 rfl Try.ntmps64 (Nat.le_of_ble_eq_true rfl) (fun C ok hh => ?_)
  repeat (first | (with_reducible first | refine GL.nil ?_ | refine G.region ?_ | refine G.seq ?_ | refine G.skip ?_ | refine G.block ?_ | refine G.inBlock ?_ | refine G.label ?_) | ((with_reducible show GL _ _ _ _ (_ :: _) _ _ _ _); first | refine GL.p ?_ | refine GL.pK ?_ | refine GL.store ?_ | refine GL.storeN ?_ | refine GL.boxA (fun g => ?_) | refine GL.box1 (fun g => ?_) | refine GL.alloc1 rfl (fun g => ?_) | refine GL.allocA (fun g => ?_) | refine GL.no ?_) | ((with_reducible show G _ _ _ (Item.code (Code.cond _ _ _) :: _) _ _ _); first | refine G.condT rfl ?_ | refine G.condF rfl ?_ | refine G.condYes rfl (by omega) ?_ | refine G.condNo rfl (by omega) ?_) | (with_reducible refine G.exit rfl ?_))
  refine G.loop (fun x : Nat × Nat => [(0, .slice A n c), (1, .int .i64 i0), (7, .int .i64 x.2), (8, .int .i64 ((128 ^ x.1 : Nat) : Int)), (9, .int .i64 ((i0 + x.1 : Nat) : Int))]) (fun _ => []) (fun x s' => s' = s ∧ x.1 ≤ 6 ∧ i0 + x.1 ≤ n ∧ x.2 < 128 ^ x.1 ∧ vgetAux (l.drop (i0 + x.1)) x.1 x.2 = vget (l.drop i0)) (fun x => 6 - x.1) (0, 0) (by ((repeat' (first | exact trivial | refine And.intro ?_ ?_)); all_goals (first | (refine congrArg some (congrArg (Value.int _) ?_); (try dsimp only); omega) | exact rfl))) .nil ⟨rfl, by decide, hi, by decide, rfl⟩ ?_
  rintro ⟨j, acc⟩ s' ⟨rfl, hj, hin, hacc, hv⟩ ih
  dsimp only at hj hin hacc hv ⊢
  by_cases hlt : ((i0 + j : Nat) : Int) < n
  · by_cases hj6 : ((i0 + j : Nat) : Int) < (i0 : Int) + 6
    · have hlen : i0 + j < l.length := by omega
      have hj5 : j < 6 := by omega
      generalize hbe : l[i0 + j] = b
      have hb256 : b.toNat < 256 := b.toNat_lt
      have hbyte : (bcells l)[((i0 + j : Nat) : Int).toNat * 1]? = some (.int .u8 (b.toNat : Nat)) := by
        rw [Int.toNat_natCast, Nat.mul_one, List.getElem?_map, List.getElem?_eq_getElem hlen, hbe]
        rfl
      have hdrop : l.drop (i0 + j) = b :: l.drop (i0 + (j + 1)) := by rw [← hbe, List.drop_eq_getElem_cons hlen]; rfl
      rw [hdrop, vgetAux_cons _ _ _ _ hj5] at hv
      have hX1 := vget_grow acc (b.toNat % 128) j hacc (by omega)
      have hp : (128 : Nat) ^ j ≤ 34359738368 := by
        have : ∀ q : Fin 6, (128 : Nat) ^ q.val ≤ 34359738368 := by decide
        exact this ⟨j, by omega⟩
      have hpow : 128 ^ (j + 1) = 128 ^ j * 128 := Nat.pow_succ ..
      have hm : b.toNat % 128 * 128 ^ j ≤ 127 * 34359738368 := Nat.mul_le_mul (by omega) hp
      have hm2 : ((128 ^ j : Nat) : Int) * ((b.toNat % 128 : Nat) : Int) = ((b.toNat % 128 * 128 ^ j : Nat) : Int) := by rw [← Int.natCast_mul, Nat.mul_comm]
      have hu2 : ((128 ^ j : Nat) : Int) * 128 = ((128 ^ (j + 1) : Nat) : Int) := by rw [hpow]; rfl
      have hi1 : ((i0 + j : Nat) : Int) + 1 = ((i0 + (j + 1) : Nat) : Int) := by omega
      repeat (first | (with_reducible first | refine GL.nil ?_ | refine G.region ?_ | refine G.seq ?_ | refine G.skip ?_ | refine G.block ?_ | refine G.inBlock ?_ | refine G.label ?_) | ((with_reducible show GL _ _ _ _ (_ :: _) _ _ _ _); first | refine GL.p ?_ | refine GL.pK ?_ | refine GL.store ?_ | refine GL.storeN ?_ | refine GL.boxA (fun g => ?_) | refine GL.box1 (fun g => ?_) | refine GL.alloc1 rfl (fun g => ?_) | refine GL.allocA (fun g => ?_) | refine GL.no ?_) | ((with_reducible show G _ _ _ (Item.code (Code.cond _ _ _) :: _) _ _ _); first | refine G.condT rfl ?_ | refine G.condF rfl ?_ | refine G.condYes rfl (by omega) ?_ | refine G.condNo rfl (by omega) ?_) | (with_reducible refine G.exit rfl ?_))
      refine GL.pure rfl (Wants.all rfl) (PEv.rem8 rfl rfl) rfl ?_
      refine GL.pure rfl (Wants.all rfl) (PEv.conv64 rfl rfl (by omega) (by omega)) rfl ?_
      refine GL.pure rfl (Wants.all rfl) (PEv.mulI rfl rfl rfl (by rw [hm2]; omega) (by rw [hm2]; omega)) rfl ?_
      rw [hm2]
      refine GL.pure rfl (Wants.all rfl) (PEv.addI rfl rfl rfl (by omega) (by omega)) rfl ?_
      rw [show (acc : Int) + ((b.toNat % 128 * 128 ^ j : Nat) : Int) = ((acc + b.toNat % 128 * 128 ^ j : Nat) : Int) by omega]
      generalize acc + b.toNat % 128 * 128 ^ j = X at hv hX1 ⊢
      by_cases hb128 : (b.toNat : Int) < 128
      · rw [if_pos (by omega)] at hv
        by_cases hX : 1099511627776 < (X : Int)
        · rw [if_neg (by omega)] at hv
          repeat (first | (with_reducible first | refine GL.nil ?_ | refine G.region ?_ | refine G.seq ?_ | refine G.skip ?_ | refine G.block ?_ | refine G.inBlock ?_ | refine G.label ?_) | ((with_reducible show GL _ _ _ _ (_ :: _) _ _ _ _); first | refine GL.p ?_ | refine GL.pK ?_ | refine GL.store ?_ | refine GL.storeN ?_ | refine GL.boxA (fun g => ?_) | refine GL.box1 (fun g => ?_) | refine GL.alloc1 rfl (fun g => ?_) | refine GL.allocA (fun g => ?_) | refine GL.no ?_) | ((with_reducible show G _ _ _ (Item.code (Code.cond _ _ _) :: _) _ _ _); first | refine G.condT rfl ?_ | refine G.condF rfl ?_ | refine G.condYes rfl (by omega) ?_ | refine G.condNo rfl (by omega) ?_) | (with_reducible refine G.exit rfl ?_))
          refine G.ret3 ok rfl ?_
          exact .inr ⟨hv.symm, rfl, rfl, rfl⟩
        · by_cases hj0 : (i0 : Int) < ((i0 + j : Nat) : Int)
          · by_cases hb0 : (b.toNat : Int) = 0
            · rw [if_neg (by omega)] at hv
              repeat (first | (with_reducible first | refine GL.nil ?_ | refine G.region ?_ | refine G.seq ?_ | refine G.skip ?_ | refine G.block ?_ | refine G.inBlock ?_ | refine G.label ?_) | ((with_reducible show GL _ _ _ _ (_ :: _) _ _ _ _); first | refine GL.p ?_ | refine GL.pK ?_ | refine GL.store ?_ | refine GL.storeN ?_ | refine GL.boxA (fun g => ?_) | refine GL.box1 (fun g => ?_) | refine GL.alloc1 rfl (fun g => ?_) | refine GL.allocA (fun g => ?_) | refine GL.no ?_) | ((with_reducible show G _ _ _ (Item.code (Code.cond _ _ _) :: _) _ _ _); first | refine G.condT rfl ?_ | refine G.condF rfl ?_ | refine G.condYes rfl (by omega) ?_ | refine G.condNo rfl (by omega) ?_) | (with_reducible refine G.exit rfl ?_))
              refine G.ret3 ok rfl ?_
              exact .inr ⟨hv.symm, rfl, rfl, rfl⟩
            · rw [if_pos ⟨by omega, .inl (by omega)⟩] at hv
              repeat (first | (with_reducible first | refine GL.nil ?_ | refine G.region ?_ | refine G.seq ?_ | refine G.skip ?_ | refine G.block ?_ | refine G.inBlock ?_ | refine G.label ?_) | ((with_reducible show GL _ _ _ _ (_ :: _) _ _ _ _); first | refine GL.p ?_ | refine GL.pK ?_ | refine GL.store ?_ | refine GL.storeN ?_ | refine GL.boxA (fun g => ?_) | refine GL.box1 (fun g => ?_) | refine GL.alloc1 rfl (fun g => ?_) | refine GL.allocA (fun g => ?_) | refine GL.no ?_) | ((with_reducible show G _ _ _ (Item.code (Code.cond _ _ _) :: _) _ _ _); first | refine G.condT rfl ?_ | refine G.condF rfl ?_ | refine G.condYes rfl (by omega) ?_ | refine G.condNo rfl (by omega) ?_) | (with_reducible refine G.exit rfl ?_))
              rw [hi1]
              refine G.ret3 ok rfl ?_
              exact .inl ⟨_, _, hv.symm, rfl, rfl, rfl⟩
          · rw [if_pos ⟨by omega, .inr (by omega)⟩] at hv
            repeat (first | (with_reducible first | refine GL.nil ?_ | refine G.region ?_ | refine G.seq ?_ | refine G.skip ?_ | refine G.block ?_ | refine G.inBlock ?_ | refine G.label ?_) | ((with_reducible show GL _ _ _ _ (_ :: _) _ _ _ _); first | refine GL.p ?_ | refine GL.pK ?_ | refine GL.store ?_ | refine GL.storeN ?_ | refine GL.boxA (fun g => ?_) | refine GL.box1 (fun g => ?_) | refine GL.alloc1 rfl (fun g => ?_) | refine GL.allocA (fun g => ?_) | refine GL.no ?_) | ((with_reducible show G _ _ _ (Item.code (Code.cond _ _ _) :: _) _ _ _); first | refine G.condT rfl ?_ | refine G.condF rfl ?_ | refine G.condYes rfl (by omega) ?_ | refine G.condNo rfl (by omega) ?_) | (with_reducible refine G.exit rfl ?_))
            rw [hi1]
            refine G.ret3 ok rfl ?_
            exact .inl ⟨_, _, hv.symm, rfl, rfl, rfl⟩
      · rw [if_neg (by omega)] at hv
        repeat (first | (with_reducible first | refine GL.nil ?_ | refine G.region ?_ | refine G.seq ?_ | refine G.skip ?_ | refine G.block ?_ | refine G.inBlock ?_ | refine G.label ?_) | ((with_reducible show GL _ _ _ _ (_ :: _) _ _ _ _); first | refine GL.p ?_ | refine GL.pK ?_ | refine GL.store ?_ | refine GL.storeN ?_ | refine GL.boxA (fun g => ?_) | refine GL.box1 (fun g => ?_) | refine GL.alloc1 rfl (fun g => ?_) | refine GL.allocA (fun g => ?_) | refine GL.no ?_) | ((with_reducible show G _ _ _ (Item.code (Code.cond _ _ _) :: _) _ _ _); first | refine G.condT rfl ?_ | refine G.condF rfl ?_ | refine G.condYes rfl (by omega) ?_ | refine G.condNo rfl (by omega) ?_) | (with_reducible refine G.exit rfl ?_))
        rw [hi1, hu2]
        exact ih (j + 1, X) _ _ _ _ (by ((repeat' (first | exact trivial | refine And.intro ?_ ?_)); all_goals (first | (refine congrArg some (congrArg (Value.int _) ?_); (try dsimp only); omega) | exact rfl))) .nil ⟨rfl, by dsimp only; omega, (by dsimp only; omega), hX1, hv⟩ (by dsimp only; omega)
    · obtain rfl : j = 6 := by omega
      rw [vgetAux_six] at hv
      repeat (first | (with_reducible first | refine GL.nil ?_ | refine G.region ?_ | refine G.seq ?_ | refine G.skip ?_ | refine G.block ?_ | refine G.inBlock ?_ | refine G.label ?_) | ((with_reducible show GL _ _ _ _ (_ :: _) _ _ _ _); first | refine GL.p ?_ | refine GL.pK ?_ | refine GL.store ?_ | refine GL.storeN ?_ | refine GL.boxA (fun g => ?_) | refine GL.box1 (fun g => ?_) | refine GL.alloc1 rfl (fun g => ?_) | refine GL.allocA (fun g => ?_) | refine GL.no ?_) | ((with_reducible show G _ _ _ (Item.code (Code.cond _ _ _) :: _) _ _ _); first | refine G.condT rfl ?_ | refine G.condF rfl ?_ | refine G.condYes rfl (by omega) ?_ | refine G.condNo rfl (by omega) ?_) | (with_reducible refine G.exit rfl ?_))
      refine G.ret3 ok rfl ?_
      exact .inr ⟨hv.symm, rfl, rfl, rfl⟩
  · have hdrop : l.drop (i0 + j) = [] := List.drop_eq_nil_of_le (by omega)
    rw [hdrop] at hv
    repeat (first | (with_reducible first | refine GL.nil ?_ | refine G.region ?_ | refine G.seq ?_ | refine G.skip ?_ | refine G.block ?_ | refine G.inBlock ?_ | refine G.label ?_) | ((with_reducible show GL _ _ _ _ (_ :: _) _ _ _ _); first | refine GL.p ?_ | refine GL.pK ?_ | refine GL.store ?_ | refine GL.storeN ?_ | refine GL.boxA (fun g => ?_) | refine GL.box1 (fun g => ?_) | refine GL.alloc1 rfl (fun g => ?_) | refine GL.allocA (fun g => ?_) | refine GL.no ?_) | ((with_reducible show G _ _ _ (Item.code (Code.cond _ _ _) :: _) _ _ _); first | refine G.condT rfl ?_ | refine G.condF rfl ?_ | refine G.condYes rfl (by omega) ?_ | refine G.condNo rfl (by omega) ?_) | (with_reducible refine G.exit rfl ?_))
    refine G.ret3 ok rfl ?_
    exact .inr ⟨hv.symm, rfl, rfl, rfl⟩
end Go.Proofs.Ytnndjobhcncanaa
