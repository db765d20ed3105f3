/- Numbers as bytes: plain mathematics. No statement of the seat is proved here. -/
import Derived.Test.YtnndjobhcncanaaB
namespace Go.Proofs.Ytnndjobhcncanaa
/-- How many bytes a number has. -/
def vlen (n : Nat) : Nat := if n < 128 then 1 else 1 + vlen (n / 128)
termination_by n
decreasing_by omega
/-- A number's bytes. -/
def venc (n : Nat) : List UInt8 := if n < 128 then [UInt8.ofNat n] else UInt8.ofNat (128 + n % 128) :: venc (n / 128)
termination_by n
decreasing_by omega
theorem vlen_pos (n : Nat) : 1 ≤ vlen n := by unfold vlen; split <;> omega
theorem vlen_step (n : Nat) (h : 128 ≤ n) : vlen n = 1 + vlen (n / 128) := by rw [vlen, if_neg (by omega)]
theorem vlen_one (n : Nat) (h : n < 128) : vlen n = 1 := by rw [vlen, if_pos h]
theorem venc_step (n : Nat) (h : 128 ≤ n) : venc n = UInt8.ofNat (128 + n % 128) :: venc (n / 128) := by rw [venc, if_neg (by omega)]
theorem venc_one (n : Nat) (h : n < 128) : venc n = [UInt8.ofNat n] := by rw [venc, if_pos h]
theorem venc_length (n : Nat) : (venc n).length = vlen n := by
  induction n using Nat.strongRecOn with
  | _ n ih =>
    by_cases h : n < 128
    · rw [venc_one n h, vlen_one n h]; rfl
    · rw [venc_step n (by omega), vlen_step n (by omega), List.length_cons, ih (n / 128) (by omega)]; omega
theorem vlen_le (n : Nat) (h : n ≤ 1099511627776) : vlen n ≤ 6 := by
  have h1 : n / 128 ≤ 8589934592 := by omega
  have key : ∀ m k, m < 128 ^ k → 0 < k → vlen m ≤ k := by
    intro m k
    induction k generalizing m with
    | zero => intro _ h; omega
    | succ k ih =>
      intro hm _
      by_cases h : m < 128
      · rw [vlen_one m h]; omega
      · rw [vlen_step m (by omega)]
        rcases Nat.eq_zero_or_pos k with rfl | hk
        · simp at hm; omega
        · have := ih (m / 128) (by rw [Nat.div_lt_iff_lt_mul (by omega)]; rw [Nat.pow_succ] at hm; exact hm) hk
          omega
  exact key n 6 (by omega) (by omega)
/-- The number of 7-bit groups of what is left, and none of nothing. -/
def vrest (n : Nat) : Nat := if n = 0 then 0 else vlen n
theorem vlen_rest (n : Nat) : vlen n = 1 + vrest (n / 128) := by
  unfold vrest
  by_cases h : n < 128
  · rw [vlen_one n h, if_pos (by omega)]
  · rw [vlen_step n (by omega), if_neg (by omega)]
theorem vrest_step (n : Nat) (h : 0 < n) : vrest n = 1 + vrest (n / 128) := by rw [vrest, if_neg (by omega), vlen_rest]
theorem vrest_le (n : Nat) (h : n ≤ 1099511627776) : vrest n ≤ 6 := by unfold vrest; split; omega; exact vlen_le n h
/-- The number that stands first in some bytes, and how many bytes it has. -/
def vgetAux : List UInt8 → Nat → Nat → Option (Nat × Nat)
  | [], _, _ => none
  | c :: r, j, acc =>
    if 6 ≤ j then none else
    if c.toNat < 128 then (if acc + c.toNat % 128 * 128 ^ j ≤ 1099511627776 ∧ (0 < c.toNat ∨ j = 0) then some (acc + c.toNat % 128 * 128 ^ j, j + 1) else none)
    else vgetAux r (j + 1) (acc + c.toNat % 128 * 128 ^ j)
def vget (l : List UInt8) : Option (Nat × Nat) := vgetAux l 0 0
theorem vgetAux_cons (c : UInt8) (r : List UInt8) (j acc : Nat) (hj : j < 6) : vgetAux (c :: r) j acc = if c.toNat < 128 then (if acc + c.toNat % 128 * 128 ^ j ≤ 1099511627776 ∧ (0 < c.toNat ∨ j = 0) then some (acc + c.toNat % 128 * 128 ^ j, j + 1) else none) else vgetAux r (j + 1) (acc + c.toNat % 128 * 128 ^ j) := by
  rw [vgetAux, if_neg (by omega)]
theorem vgetAux_six (l : List UInt8) (acc : Nat) : vgetAux l 6 acc = none := by
  cases l with
  | nil => rfl
  | cons c r => rw [vgetAux, if_pos (by omega)]
theorem vget_grow (acc b j : Nat) (h : acc < 128 ^ j) (hb : b < 128) : acc + b * 128 ^ j < 128 ^ (j + 1) := by
  have : b * 128 ^ j ≤ 127 * 128 ^ j := Nat.mul_le_mul_right _ (by omega)
  rw [Nat.pow_succ]
  omega
/-- May a number be written? -/
def numOk (n : Int) : Bool := decide (0 ≤ n ∧ n ≤ 1099511627776)
end Go.Proofs.Ytnndjobhcncanaa
