/- Plain law of the table between two parts. No statement of the seat is proved here. -/
import Derived.Test.YtnndjobhcncanaaU9
namespace Go.Proofs.Ytnndjobhcncanaa
open Go.RowKit
theorem cnt_le (f : Nat → Int) (x : Int) : ∀ n, cnt f x n ≤ n
  | 0 => Nat.le_refl _
  | n + 1 => by have := cnt_le f x n; rw [cnt]; split <;> omega
theorem cnt_spec {f : Nat → Int} {x : Int} : ∀ {n : Nat}, (∀ j, j + 1 < n → f j < f (j + 1)) → ∀ j, j < n → (f j < x ↔ j < cnt f x n)
  | 0, _, j, h => by omega
  | n + 1, hr, j, h => by
    have ih := cnt_spec (x := x) (n := n) (fun j hj => hr j (by omega))
    have hle := cnt_le f x n
    rw [cnt]
    by_cases hn : f n < x
    · rw [if_pos hn]
      have hall : ∀ i, i < n → i < cnt f x n := fun i hi => (ih i hi).1 (by have := rise_mono hr (i := i) (j := n) (by omega) (by omega); omega)
      have hc : cnt f x n = n := by
        rcases Nat.eq_zero_or_pos n with h0 | h0
        · omega
        · have := hall (n - 1) (by omega); omega
      rw [hc]
      refine ⟨fun _ => h, fun _ => ?_⟩
      have := rise_mono hr (i := j) (j := n) (by omega) (by omega)
      omega
    · rw [if_neg hn, Nat.add_zero]
      rcases Nat.lt_or_ge j n with h1 | h1
      · exact ih j h1
      · obtain rfl : j = n := by omega
        exact ⟨fun h => absurd h hn, fun h => by omega⟩
theorem cnt_mono {f : Nat → Int} {x y : Int} (h : x ≤ y) : ∀ n, cnt f x n ≤ cnt f y n
  | 0 => Nat.le_refl _
  | n + 1 => by
    have := cnt_mono h n (f := f)
    rw [cnt, cnt]
    split <;> split <;> omega
section
variable {a b c : PartD}
theorem mk_row (h : mkOk a b) {m k : Nat} (hk : k < a.hr.n) : a.st + m ≤ a.of k ↔ mkAt a b m ≤ b.of k := by
  have h1 := cnt_spec (x := a.st + m) h.oka.up k hk
  have h2 := cnt_le a.of (a.st + m) a.hr.n
  have hn := h.nn
  have hlt : (a.st + m ≤ a.of k) ↔ cnt a.of (a.st + m) a.hr.n ≤ k := by omega
  rw [hlt, mkAt]
  generalize cnt a.of (a.st + m) a.hr.n = C at h2
  split
  · rename_i hC
    constructor
    · intro h3
      have := rise_mono h.okb.up h3 (by omega)
      omega
    · intro h3
      rcases Nat.lt_or_ge k C with h4 | h4
      · have := rise_mono h.okb.up (i := k) (j := C) (by omega) (by omega)
        omega
      · exact h4
  · have := h.okb.hi k (by omega)
    omega
theorem mk_at (h : mkOk a b) {m k : Nat} (hk : k < a.hr.n) (he : a.of k = a.st + m) : mkAt a b m = b.of k := by
  have : cnt a.of (a.st + m) a.hr.n = k := by
    rw [cnt_is (k := k) (fun j hj hj2 => ?_) (fun j hj hj2 => ?_)]
    · omega
    · have := rise_mono h.oka.up (i := j) (j := k) (by omega) (by omega)
      omega
    · have := rise_mono h.oka.up (i := k) (j := j) (by omega) (by omega)
      omega
  rw [mkAt, this, if_pos hk]
theorem mk_end (h : mkOk a b) {m : Nat} (he : a.st + m = a.en) : mkAt a b m = b.en := by
  have : cnt a.of (a.st + m) a.hr.n = a.hr.n := by
    rw [cnt_is (k := a.hr.n) (fun j hj hj2 => ?_) (fun j hj hj2 => by omega)]
    · omega
    · have := h.oka.hi j hj
      omega
  rw [mkAt, this, if_neg (by omega)]
theorem mk_lo (h : mkOk a b) (m : Nat) : b.st ≤ mkAt a b m := by
  have hn := h.nn
  rw [mkAt]
  split
  · exact h.okb.lo _ (by omega)
  · exact h.okb.se
theorem mk_hi (h : mkOk a b) (m : Nat) : mkAt a b m ≤ b.en := by
  have hn := h.nn
  rw [mkAt]
  split
  · have := h.okb.hi _ (show cnt a.of (a.st + m) a.hr.n < b.hr.n by omega)
    omega
  · exact Int.le_refl _
theorem mk_up (h : mkOk a b) {m m' : Nat} (hm : m ≤ m') : mkAt a b m ≤ mkAt a b m' := by
  have hn := h.nn
  have h1 := cnt_mono (f := a.of) (show a.st + (m : Int) ≤ a.st + m' by omega) a.hr.n
  have h3 := mk_hi h m
  rw [mkAt, mkAt] at *
  generalize cnt a.of (a.st + m) a.hr.n = C at *
  generalize cnt a.of (a.st + m') a.hr.n = D at *
  split
  · split
    · have := rise_mono h.okb.up h1 (by omega)
      omega
    · rename_i g1 g2
      rw [if_pos g1] at h3
      exact h3
  · rw [if_neg (by omega)]
    exact Int.le_refl _
theorem mk_ok (h : mkOk a b) {t : TabD} (h1 : t.st = a.st) (h2 : t.en = a.en) (h3 : t.l = mkL a b) (h4 : t.l.length = t.h.n) : t.ok := by
  have q0 := h.oka.st
  have q1 := h.oka.se
  have q2 := h.oka.en
  have r0 := h.okb.st
  have r2 := h.okb.en
  rw [h3, mkL_length] at h4
  refine ⟨by omega, by omega, by omega, by omega, fun i hi => ?_, fun i hi => ?_, fun i hi => ?_⟩
  · rw [h3, mkL_nth a b i (by omega)]; have := mk_lo h i; omega
  · rw [h3, mkL_nth a b i (by omega)]; have := mk_hi h i; omega
  · rw [h3, mkL_nth a b i (by omega), mkL_nth a b (i + 1) (by omega)]; exact mk_up h (by omega)
/-- From the first to the second, from the second to the third. -/
theorem mk_mk (h : mkOk a b) (h' : mkOk b c) (m : Nat) : mkAt b c (mkAt a b m - b.st).toNat = mkAt a c m := by
  have h1 := mk_lo h m
  have hn := h.nn
  have hn' := h'.nn
  have hx : b.st + ((mkAt a b m - b.st).toNat : Int) = mkAt a b m := by omega
  by_cases hC : cnt a.of (a.st + m) a.hr.n < a.hr.n
  · have e1 : mkAt a b m = b.of (cnt a.of (a.st + m) a.hr.n) := by rw [mkAt, if_pos hC]
    have e2 : mkAt a c m = c.of (cnt a.of (a.st + m) a.hr.n) := by rw [mkAt, if_pos hC]
    rw [e2]
    exact mk_at h' (by omega) (by omega)
  · have e1 : mkAt a b m = b.en := by rw [mkAt, if_neg hC]
    have e2 : mkAt a c m = c.en := by rw [mkAt, if_neg hC]
    rw [e2]
    exact mk_end h' (by omega)
end
end Go.Proofs.Ytnndjobhcncanaa
