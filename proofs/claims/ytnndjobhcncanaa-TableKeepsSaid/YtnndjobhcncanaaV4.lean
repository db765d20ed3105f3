/- Fields are read as they were written: plain mathematics. No statement of the seat is proved here. -/
import Derived.Test.YtnndjobhcncanaaV3
namespace Go.Proofs.Ytnndjobhcncanaa
theorem numR_of {l rest : List UInt8} {i x : Nat} {a b : Int} (h : l.drop i = venc x ++ rest) (hx : x ≤ 1099511627776) (ha : a ≤ x) (hb : (x : Int) ≤ b) : numR l i a b = some (x, i + vlen x) := by
  rw [numR, h, vget_venc x rest hx]
  exact if_pos ⟨ha, hb⟩
theorem drop_behind {l a rest : List UInt8} {i : Nat} (h : l.drop i = a ++ rest) : l.drop (i + a.length) = rest := by
  rw [← List.drop_drop, h, List.drop_left]
theorem numR_inv {l : List UInt8} {i x i1 : Nat} {a b : Int} (h : numR l i a b = some (x, i1)) : l.drop i = venc x ++ l.drop i1 ∧ i1 = i + vlen x ∧ a ≤ x ∧ (x : Int) ≤ b ∧ x ≤ 1099511627776 := by
  unfold numR at h
  split at h
  · rename_i x' q hv
    split at h
    · rename_i hab
      simp only [Option.some.injEq, Prod.mk.injEq] at h
      obtain ⟨r, h1, h2, h3⟩ := vget_inv hv
      obtain ⟨rfl, h5⟩ := h
      have h6 := drop_behind h1
      rw [venc_length, ← h2, h5] at h6
      exact ⟨by rw [h6]; exact h1, by omega, hab.1, hab.2, h3⟩
    · cases h
  · cases h
theorem ext_list (z : ByteArray) (a b : Nat) : (z.extract a b).data.toList = (z.data.toList.drop a).take (b - a) := by
  simp [List.extract]
theorem txtR_of {z s : ByteArray} {rest : List UInt8} {i : Nat} {b : Int} (h : z.data.toList.drop i = tenc s ++ rest) (hb : (s.size : Int) ≤ b) (hs : s.size ≤ 1099511627776) : txtR z.data.toList i b = some (s.size, i + vlen s.size) ∧ z.extract (i + vlen s.size) (i + vlen s.size + s.size) = s ∧ z.data.toList.drop (i + vlen s.size + s.size) = rest := by
  rw [tenc, List.append_assoc] at h
  have h1 := numR_of (a := 0) (b := b) h hs (by omega) hb
  have h2 := drop_behind h
  rw [venc_length] at h2
  have h3 := drop_behind h2
  rw [bytes_len] at h3
  refine ⟨?_, ?_, h3⟩
  · rw [txtR, h1]
    refine if_pos ?_
    have h4 : (z.data.toList.drop (i + vlen s.size)).length = s.size + rest.length := by rw [h2, List.length_append, bytes_len]
    have hp := vlen_pos s.size
    rw [List.length_drop] at h4
    by_cases h0 : s.size = 0
    · have h5 : 0 < (z.data.toList.drop i).length := by rw [h, List.length_append, venc_length]; omega
      have h6 : (z.data.toList.drop i).length = vlen s.size + (s.size + rest.length) := by rw [h, List.length_append, List.length_append, venc_length, bytes_len]
      rw [List.length_drop] at h5 h6
      omega
    · omega
  · apply bytes_ext
    rw [ext_list, h2, show i + vlen s.size + s.size - (i + vlen s.size) = s.data.toList.length from by rw [bytes_len]; omega, List.take_left]
theorem txtR_inv {z : ByteArray} {i n i1 : Nat} {b : Int} (h : txtR z.data.toList i b = some (n, i1)) : z.data.toList.drop i = tenc (z.extract i1 (i1 + n)) ++ z.data.toList.drop (i1 + n) ∧ (z.extract i1 (i1 + n)).size = n ∧ (n : Int) ≤ b ∧ i < i1 ∧ i1 + n ≤ z.size := by
  unfold txtR at h
  split at h
  · rename_i n' i1' hn
    split at h
    · rename_i hfit
      simp only [Option.some.injEq, Prod.mk.injEq] at h
      obtain ⟨rfl, rfl⟩ := h
      obtain ⟨h1, h2, h3, h4, h5⟩ := numR_inv hn
      have hz := bytes_len z
      have hl : (z.extract i1' (i1' + n')).data.toList = (z.data.toList.drop i1').take n' := by rw [ext_list]; congr 1; omega
      have hs : (z.extract i1' (i1' + n')).size = n' := by
        rw [← bytes_len, hl, List.length_take, List.length_drop]
        omega
      have hp := vlen_pos n'
      refine ⟨?_, hs, h4, by omega, by omega⟩
      rw [tenc, hs, hl, List.append_assoc, ← List.drop_drop, List.take_append_drop, ← h1]
    · cases h
  · cases h
/-- A field; its bytes. -/
structure Fld where
  do_ : Int
  num : Int
  txt : ByteArray
def fenc (x : Fld) : List UInt8 := if x.do_ = 0 then venc x.num.toNat else if x.do_ = 1 then tenc x.txt else [if x.num = 1 then 1 else 0]
def okF (x : Fld) : Prop := (x.do_ = 0 → 0 ≤ x.num ∧ x.num ≤ 1099511627776) ∧ (x.do_ = 1 → x.txt.size ≤ 1024)
end Go.Proofs.Ytnndjobhcncanaa
