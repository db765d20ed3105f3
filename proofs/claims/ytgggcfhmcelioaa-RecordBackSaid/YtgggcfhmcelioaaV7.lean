/- Beginnings of a batch's bytes, one byte more, how many they are: plain mathematics. No statement of the seat is proved here. -/
import Derived.Test.YtgggcfhmcelioaaV6
namespace Go.Proofs.Ytgggcfhmcelioaa
theorem vlen_3 {x : Nat} (h : x ≤ 1048576) : vlen x ≤ 3 := by
  by_cases h1 : x < 128
  · rw [vlen_one x h1]; omega
  · rw [vlen_step x (by omega)]
    by_cases h2 : x / 128 < 128
    · rw [vlen_one _ h2]; omega
    · rw [vlen_step _ (by omega), vlen_one _ (by omega)]
      omega
theorem renc_len {r : Rec} (h : fitsR r = true) : (renc r).length ≤ 34 := by
  simp only [fitsR, decide_eq_true_eq] at h
  rw [renc, List.length_append, tenc_length, tenc_length, vlen_one _ (by omega), vlen_one _ (by omega)]
  omega
theorem rencs_len : ∀ (l : List Rec), l.all fitsR = true → (l.flatMap renc).length ≤ l.length * 34
  | [], _ => by simp
  | r :: l, h => by
    simp only [List.all_cons, Bool.and_eq_true] at h
    have h1 := renc_len h.1
    have h2 := rencs_len l h.2
    rw [List.flatMap_cons, List.length_append, List.length_cons]
    omega
theorem benc_len {p e q : Int} {t : Bool} {l : List Rec} (hm : mayP p e q l) : 1 ≤ (benc p e q t l).length ∧ (benc p e q t l).length ≤ 160 := by
  obtain ⟨hp, he, hn, hq, ha⟩ := hm
  have h1 := rencs_len l ha
  have h2 := vlen_3 (x := q.toNat) (by omega)
  have h3 := vlen_one p.toNat (by omega)
  have h4 := vlen_one e.toNat (by omega)
  have h5 := vlen_one l.length (by omega)
  simp only [benc, bhead, List.length_append, venc_length, List.length_nil, List.length_cons]
  omega
theorem rdB_of {p e q : Int} {t : Bool} {l : List Rec} (hm : mayP p e q l) : rdB ⟨(benc p e q t l).toArray⟩ = ((p, e, q, t, l), 0) := by
  obtain ⟨hp, he, hn, hq, ha⟩ := id hm
  obtain ⟨p, rfl⟩ := Int.eq_ofNat_of_zero_le (show 0 ≤ p by omega)
  obtain ⟨e, rfl⟩ := Int.eq_ofNat_of_zero_le (show 0 ≤ e by omega)
  obtain ⟨q, rfl⟩ := Int.eq_ofNat_of_zero_le (show 0 ≤ q by omega)
  have h := tk_of (z := ⟨(benc p e q t l).toArray⟩) hm rfl
  unfold rdB
  rw [h]
  exact if_pos ⟨rfl, rfl⟩
theorem rdB_part {p e q : Int} {t : Bool} {l : List Rec} (hm : mayP p e q l) {z : ByteArray} {y : List UInt8} (h : benc p e q t l = z.data.toList ++ y) (hy : y ≠ []) : (rdB z).2 = 70 := by
  rcases rdB_err z with h0 | h0
  · exfalso
    obtain ⟨hm', hz⟩ := rdB_inv h0
    generalize rdB z = R at hm' hz
    obtain ⟨⟨p', e', q', t', l'⟩, er⟩ := R
    dsimp only at hm' hz
    obtain ⟨hp, he, hn, hq, ha⟩ := hm
    obtain ⟨hp', he', hn', hq', ha'⟩ := hm'
    obtain ⟨p, rfl⟩ := Int.eq_ofNat_of_zero_le (show 0 ≤ p by omega)
    obtain ⟨e, rfl⟩ := Int.eq_ofNat_of_zero_le (show 0 ≤ e by omega)
    obtain ⟨q, rfl⟩ := Int.eq_ofNat_of_zero_le (show 0 ≤ q by omega)
    obtain ⟨p', rfl⟩ := Int.eq_ofNat_of_zero_le (show 0 ≤ p' by omega)
    obtain ⟨e', rfl⟩ := Int.eq_ofNat_of_zero_le (show 0 ≤ e' by omega)
    obtain ⟨q', rfl⟩ := Int.eq_ofNat_of_zero_le (show 0 ≤ q' by omega)
    have h2 := (benc_inj p e q t l p' e' q' t' l' [] y (by rw [List.append_nil, h, hz])).2
    exact hy h2.symm
  · exact h0
theorem rdB_more {p e q : Int} {t : Bool} {l : List Rec} (hm : mayP p e q l) {z : ByteArray} {y : List UInt8} (h : z.data.toList = benc p e q t l ++ y) (hy : y ≠ []) : (rdB z).2 = 70 := by
  rcases rdB_err z with h0 | h0
  · exfalso
    obtain ⟨hm', hz⟩ := rdB_inv h0
    generalize rdB z = R at hm' hz
    obtain ⟨⟨p', e', q', t', l'⟩, er⟩ := R
    dsimp only at hm' hz
    obtain ⟨hp, he, hn, hq, ha⟩ := hm
    obtain ⟨hp', he', hn', hq', ha'⟩ := hm'
    obtain ⟨p, rfl⟩ := Int.eq_ofNat_of_zero_le (show 0 ≤ p by omega)
    obtain ⟨e, rfl⟩ := Int.eq_ofNat_of_zero_le (show 0 ≤ e by omega)
    obtain ⟨q, rfl⟩ := Int.eq_ofNat_of_zero_le (show 0 ≤ q by omega)
    obtain ⟨p', rfl⟩ := Int.eq_ofNat_of_zero_le (show 0 ≤ p' by omega)
    obtain ⟨e', rfl⟩ := Int.eq_ofNat_of_zero_le (show 0 ≤ e' by omega)
    obtain ⟨q', rfl⟩ := Int.eq_ofNat_of_zero_le (show 0 ≤ q' by omega)
    have h2 := (benc_inj p e q t l p' e' q' t' l' y [] (by rw [List.append_nil, ← h, hz])).2
    exact hy h2
  · exact h0
end Go.Proofs.Ytgggcfhmcelioaa
