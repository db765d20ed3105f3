/- Bytes tell what they were made of: plain mathematics. No statement of the seat is proved here. -/
import Derived.Test.YtnndjobhcncanaaQ3
namespace Go.Proofs.Ytnndjobhcncanaa
theorem venc_inj : ∀ (a b : Nat) (x y : List UInt8), venc a ++ x = venc b ++ y → a = b ∧ x = y := by
  intro a
  induction a using Nat.strongRecOn with
  | _ a ih =>
    intro b x y h
    by_cases ha : a < 128
    · rw [venc_one a ha] at h
      by_cases hb : b < 128
      · rw [venc_one b hb] at h
        simp only [List.cons_append, List.nil_append, List.cons.injEq] at h
        have h1 := congrArg UInt8.toNat h.1
        simp only [UInt8.toNat_ofNat'] at h1
        exact ⟨by omega, h.2⟩
      · rw [venc_step b (by omega)] at h
        simp only [List.cons_append, List.nil_append, List.cons.injEq] at h
        have h1 := congrArg UInt8.toNat h.1
        simp only [UInt8.toNat_ofNat'] at h1
        omega
    · rw [venc_step a (by omega)] at h
      by_cases hb : b < 128
      · rw [venc_one b hb] at h
        simp only [List.cons_append, List.nil_append, List.cons.injEq] at h
        have h1 := congrArg UInt8.toNat h.1
        simp only [UInt8.toNat_ofNat'] at h1
        omega
      · rw [venc_step b (by omega)] at h
        simp only [List.cons_append, List.cons.injEq] at h
        have h1 := congrArg UInt8.toNat h.1
        simp only [UInt8.toNat_ofNat'] at h1
        have h2 := ih (a / 128) (by omega) (b / 128) x y h.2
        exact ⟨by omega, h2.2⟩
theorem bytes_len (z : ByteArray) : z.data.toList.length = z.size := by rw [Array.length_toList]; rfl
theorem bytes_ext {z w : ByteArray} (h : z.data.toList = w.data.toList) : z = w := by
  cases z; cases w
  simp only [Array.toList_inj] at h
  rw [h]
theorem tenc_inj (z w : ByteArray) (x y : List UInt8) (h : tenc z ++ x = tenc w ++ y) : z = w ∧ x = y := by
  simp only [tenc, List.append_assoc] at h
  obtain ⟨h1, h2⟩ := venc_inj _ _ _ _ h
  have h3 := List.append_inj h2 (by rw [bytes_len, bytes_len, h1])
  exact ⟨bytes_ext h3.1, h3.2⟩
theorem renc_inj : ∀ (l l' : List Rec) (x y : List UInt8), l.length = l'.length → l.flatMap renc ++ x = l'.flatMap renc ++ y → l = l' ∧ x = y
  | [], [], x, y, _, h => ⟨rfl, by simpa using h⟩
  | [], _ :: _, _, _, hl, _ => by simp at hl
  | _ :: _, [], _, _, hl, _ => by simp at hl
  | r :: l, r' :: l', x, y, hl, h => by
    simp only [List.flatMap_cons, renc, List.append_assoc] at h
    obtain ⟨h1, h2⟩ := tenc_inj _ _ _ _ h
    obtain ⟨h3, h4⟩ := tenc_inj _ _ _ _ h2
    obtain ⟨h5, h6⟩ := renc_inj l l' x y (by simpa using hl) h4
    refine ⟨?_, h6⟩
    cases r; cases r'
    simp_all
theorem bflag_inj {t t' : Bool} {x y : List UInt8} (h : (if t then (1 : UInt8) else 0) :: x = (if t' then 1 else 0) :: y) : t = t' ∧ x = y := by
  cases t <;> cases t' <;> simp_all
theorem benc_inj (p e q : Nat) (t : Bool) (l : List Rec) (p' e' q' : Nat) (t' : Bool) (l' : List Rec) (x y : List UInt8) (h : benc p e q t l ++ x = benc p' e' q' t' l' ++ y) : (p = p' ∧ e = e' ∧ q = q' ∧ t = t' ∧ l = l') ∧ x = y := by
  simp only [benc, bhead, Int.toNat_natCast, List.nil_append, List.append_assoc, List.cons_append] at h
  obtain ⟨h1, h⟩ := venc_inj _ _ _ _ h
  obtain ⟨h2, h⟩ := venc_inj _ _ _ _ h
  obtain ⟨h3, h⟩ := venc_inj _ _ _ _ h
  obtain ⟨h4, h⟩ := bflag_inj h
  obtain ⟨h5, h⟩ := venc_inj _ _ _ _ h
  obtain ⟨h6, h⟩ := renc_inj _ _ _ _ h5 h
  exact ⟨⟨h1, h2, h3, h4, h6⟩, h⟩
end Go.Proofs.Ytnndjobhcncanaa
