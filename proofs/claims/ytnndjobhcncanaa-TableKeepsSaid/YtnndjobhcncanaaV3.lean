/- Numbers are read as they were written: plain mathematics. No statement of the seat is proved here. -/
import Derived.Test.YtnndjobhcncanaaR7
import Derived.Test.YtnndjobhcncanaaV2
namespace Go.Proofs.Ytnndjobhcncanaa
theorem vgetAux_venc : ∀ (x : Nat) (j acc : Nat) (y : List UInt8), j + vlen x ≤ 6 → acc + x * 128 ^ j ≤ 1099511627776 → (0 < x ∨ j = 0) → vgetAux (venc x ++ y) j acc = some (acc + x * 128 ^ j, j + vlen x) := by
  intro x
  induction x using Nat.strongRecOn with
  | _ x ih =>
    intro j acc y hj hx h0
    by_cases h : x < 128
    · rw [vlen_one x h] at hj ⊢
      rw [venc_one x h, List.cons_append, List.nil_append, vgetAux_cons _ _ _ _ (by omega)]
      have hb : (UInt8.ofNat x).toNat = x := by simp; omega
      rw [hb, if_pos h, Nat.mod_eq_of_lt h, if_pos ⟨hx, by omega⟩]
    · have hs := vlen_step x (by omega)
      have hp := vlen_pos (x / 128)
      rw [venc_step x (by omega), List.cons_append, vgetAux_cons _ _ _ _ (by omega)]
      have hb : (UInt8.ofNat (128 + x % 128)).toNat = 128 + x % 128 := by simp; omega
      have hm : (128 + x % 128) % 128 = x % 128 := by omega
      rw [hb, if_neg (by omega), hm]
      have he : acc + x % 128 * 128 ^ j + x / 128 * 128 ^ (j + 1) = acc + x * 128 ^ j := by
        rw [Nat.pow_succ]
        have : x = x % 128 + x / 128 * 128 := by omega
        conv => rhs; rw [this]
        rw [Nat.add_mul, Nat.mul_assoc, Nat.mul_comm 128 (128 ^ j), Nat.add_assoc]
      rw [ih (x / 128) (by omega) (j + 1) _ y (by omega) (by rw [he]; exact hx) (by omega), he, hs]
      congr 2
      omega
theorem vget_venc (x : Nat) (y : List UInt8) (hx : x ≤ 1099511627776) : vget (venc x ++ y) = some (x, vlen x) := by
  have := vgetAux_venc x 0 0 y (by have := vlen_le x hx; omega) (by simpa using hx) (.inr rfl)
  simpa [vget] using this
/-- What is read as a number was written as it. -/
theorem vgetAux_inv : ∀ (l : List UInt8) (j acc x q : Nat), vgetAux l j acc = some (x, q) → ∃ y r, l = venc y ++ r ∧ x = acc + y * 128 ^ j ∧ q = j + vlen y ∧ x ≤ 1099511627776 ∧ (0 < y ∨ j = 0)
  | [], j, acc, x, q, h => by simp [vgetAux] at h
  | c :: r, j, acc, x, q, h => by
    have hc := c.toNat_lt
    rw [vgetAux] at h
    split at h
    · cases h
    split at h
    · rename_i h2
      split at h
      · rename_i h3
        simp only [Option.some.injEq, Prod.mk.injEq] at h
        rw [Nat.mod_eq_of_lt h2] at h h3
        refine ⟨c.toNat, r, ?_, h.1.symm, by rw [vlen_one _ h2]; exact h.2.symm, by omega, h3.2⟩
        rw [venc_one _ h2]
        simp
      · cases h
    · rename_i h2
      obtain ⟨y, r', h3, h4, h5, h6, h7⟩ := vgetAux_inv r (j + 1) _ x q h
      have hy : 0 < y := by omega
      have h8 : (c.toNat % 128 + y * 128) % 128 = c.toNat % 128 := by omega
      have h9 : (c.toNat % 128 + y * 128) / 128 = y := by omega
      refine ⟨c.toNat % 128 + y * 128, r', ?_, ?_, ?_, h6, .inl (by omega)⟩
      · rw [venc_step _ (by omega), h8, h9, h3, List.cons_append]
        congr 1
        apply UInt8.toNat_inj.1
        simp
        omega
      · rw [h4, Nat.pow_succ, Nat.add_mul, Nat.mul_assoc, Nat.mul_comm 128 (128 ^ j), Nat.add_assoc]
      · rw [h5, vlen_step (c.toNat % 128 + y * 128) (by omega), h9]
        omega
theorem vget_inv {l : List UInt8} {x q : Nat} (h : vget l = some (x, q)) : ∃ r, l = venc x ++ r ∧ q = vlen x ∧ x ≤ 1099511627776 := by
  obtain ⟨y, r, h1, h2, h3, h4, -⟩ := vgetAux_inv l 0 0 x q h
  simp only [Nat.pow_zero, Nat.mul_one, Nat.zero_add] at h2 h3
  subst h2
  exact ⟨r, h1, h3, h4⟩
end Go.Proofs.Ytnndjobhcncanaa
