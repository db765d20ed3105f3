/- A batch's bytes are read as it, and no others are: plain mathematics. No statement of the seat is proved here. -/
import Derived.Test.YtgggcfhmcelioaaV5
namespace Go.Proofs.Ytgggcfhmcelioaa
theorem flag_bit {d : Nat} (h0 : (0 : Int) ≤ d) (h1 : (d : Int) ≤ 1) : venc d = [if decide ((d : Int) = 1) then 1 else 0] := by
  have : d = 0 ∨ d = 1 := by omega
  rcases this with rfl | rfl
  · rw [venc_one 0 (by omega)]; rfl
  · rw [venc_one 1 (by omega)]; rfl
theorem tk_eq {z : ByteArray} {i : Nat} {bad : Bool} {a b c d k : Nat × Nat × Bool} {r : List Rec × Nat × Bool} (hA : rdNum z.data.toList i bad 1 8 = a) (hB : rdNum z.data.toList a.2.1 a.2.2 0 100 = b) (hC : rdNum z.data.toList b.2.1 b.2.2 0 1048576 = c) (hD : rdNum z.data.toList c.2.1 c.2.2 0 1 = d) (hK : rdNum z.data.toList d.2.1 d.2.2 1 4 = k) (hR : rdRecs z k.2.1 k.2.2 k.1 = r) :
    tk z i bad = if r.2.2 = false ∧ mayP a.1 b.1 c.1 r.1 then (((a.1 : Int), (b.1 : Int), (c.1 : Int), decide ((d.1 : Int) = 1), r.1), r.2.1, false) else ((0, 0, 0, false, []), r.2.1, true) := by
  subst hA hB hC hD hK hR
  rfl
theorem tk_inv {z : ByteArray} (h : (tk z 0 false).2.2 = false) : mayP (tk z 0 false).1.1 (tk z 0 false).1.2.1 (tk z 0 false).1.2.2.1 (tk z 0 false).1.2.2.2.2 ∧ z.data.toList = benc (tk z 0 false).1.1 (tk z 0 false).1.2.1 (tk z 0 false).1.2.2.1 (tk z 0 false).1.2.2.2.1 (tk z 0 false).1.2.2.2.2 ++ z.data.toList.drop (tk z 0 false).2.1 := by
  obtain ⟨a, hA⟩ : ∃ a, rdNum z.data.toList 0 false 1 8 = a := ⟨_, rfl⟩
  obtain ⟨b, hB⟩ : ∃ b, rdNum z.data.toList a.2.1 a.2.2 0 100 = b := ⟨_, rfl⟩
  obtain ⟨c, hC⟩ : ∃ c, rdNum z.data.toList b.2.1 b.2.2 0 1048576 = c := ⟨_, rfl⟩
  obtain ⟨d, hD⟩ : ∃ d, rdNum z.data.toList c.2.1 c.2.2 0 1 = d := ⟨_, rfl⟩
  obtain ⟨k, hK⟩ : ∃ k, rdNum z.data.toList d.2.1 d.2.2 1 4 = k := ⟨_, rfl⟩
  have hRl := rdRecs_length z k.2.1 k.2.2 k.1
  obtain ⟨r, hR⟩ : ∃ r, rdRecs z k.2.1 k.2.2 k.1 = r := ⟨_, rfl⟩
  rw [tk_eq hA hB hC hD hK hR] at h ⊢
  rw [hR] at hRl
  split at h
  · rename_i hc
    rw [if_pos hc]
    obtain ⟨hb, hm⟩ := hc
    have r1 := rdRecs_ok k.1 (by rw [hR]; exact hb)
    rw [hR] at r1
    have k1 := rdNum_ok (by rw [hK]; exact r1.1)
    rw [hK] at k1
    have d1 := rdNum_ok (by rw [hD]; exact k1.1)
    rw [hD] at d1
    have c1 := rdNum_ok (by rw [hC]; exact d1.1)
    rw [hC] at c1
    have b1 := rdNum_ok (by rw [hB]; exact c1.1)
    rw [hB] at b1
    have a1 := rdNum_ok (by rw [hA]; exact b1.1)
    rw [hA] at a1
    refine ⟨hm, ?_⟩
    dsimp only
    have a2 := a1.2.1
    rw [List.drop_zero] at a2
    simp only [benc, bhead, Int.toNat_natCast, List.nil_append, List.append_assoc]
    rw [hRl, ← r1.2, ← k1.2.1, ← flag_bit d1.2.2.1 d1.2.2.2, ← d1.2.1, ← c1.2.1, ← b1.2.1]
    exact a2
  · cases h
theorem tk_of {z : ByteArray} {p e q : Nat} {t : Bool} {l : List Rec} (hm : mayP p e q l) (hz : z.data.toList = benc p e q t l) : tk z 0 false = (((p : Int), (e : Int), (q : Int), t, l), z.size, false) := by
  obtain ⟨hp, he, hn, hq, ha⟩ := id hm
  have h0 : z.data.toList.drop 0 = venc p ++ (venc e ++ (venc q ++ (venc (if t then 1 else 0) ++ (venc l.length ++ (l.flatMap renc ++ []))))) := by
    have hf : venc (if t then 1 else 0) = [if t then 1 else 0] := by
      cases t
      · exact venc_one 0 (by omega)
      · exact venc_one 1 (by omega)
    rw [List.drop_zero, hz, hf]
    simp only [benc, bhead, Int.toNat_natCast, List.nil_append, List.append_assoc, List.append_nil]
  obtain ⟨a1, a2⟩ := rdNum_of (a := 1) (b := 8) h0 (by omega) (by omega) (by omega)
  obtain ⟨b1, b2⟩ := rdNum_of (a := 0) (b := 100) a2 (by omega) (by omega) (by omega)
  obtain ⟨c1, c2⟩ := rdNum_of (a := 0) (b := 1048576) b2 (by omega) (by omega) (by omega)
  obtain ⟨d1, d2⟩ := rdNum_of (a := 0) (b := 1) c2 (by split <;> omega) (by omega) (by split <;> omega)
  obtain ⟨k1, k2⟩ := rdNum_of (a := 1) (b := 4) d2 (by omega) (by omega) (by omega)
  obtain ⟨j, r1, r2⟩ := rdRecs_of l k2 ha l.length (Nat.le_refl _)
  rw [List.take_length, List.drop_length] at *
  have hj : (rdRecs z (0 + vlen p + vlen e + vlen q + vlen (if t then 1 else 0) + vlen l.length) false l.length).2.1 ≤ z.size := by
    refine rdRecs_le ?_ _
    have h5 := zlen z
    by_cases h6 : 0 + vlen p + vlen e + vlen q + vlen (if t then 1 else 0) + vlen l.length ≤ z.size
    · exact h6
    · exfalso
      have h7 : (z.data.toList.drop (0 + vlen p + vlen e + vlen q + vlen (if t then 1 else 0))).length = vlen l.length + (l.flatMap renc).length := by rw [d2]; simp [venc_length]
      have h8 := vlen_pos l.length
      rw [List.length_drop] at h7
      omega
  rw [r1] at hj
  have hjz : j = z.size := by
    have h9 := congrArg List.length r2
    have h5 := zlen z
    simp only [List.flatMap_nil, List.append_nil, List.length_nil, List.length_drop] at h9
    dsimp only at hj
    omega
  have ht : decide ((((if t then 1 else 0 : Nat)) : Int) = 1) = t := by cases t <;> rfl
  rw [tk_eq a1 b1 c1 d1 k1 r1]
  dsimp only
  rw [if_pos ⟨rfl, hm⟩, hjz, ht]
theorem rdB_inv {z : ByteArray} (h : (rdB z).2 = 0) : mayP (rdB z).1.1 (rdB z).1.2.1 (rdB z).1.2.2.1 (rdB z).1.2.2.2.2 ∧ z.data.toList = benc (rdB z).1.1 (rdB z).1.2.1 (rdB z).1.2.2.1 (rdB z).1.2.2.2.1 (rdB z).1.2.2.2.2 := by
  unfold rdB at h ⊢
  split at h
  · rename_i hc
    rw [if_pos hc]
    obtain ⟨h1, h2⟩ := tk_inv hc.1
    refine ⟨h1, ?_⟩
    rw [hc.2, List.drop_eq_nil_of_le (by rw [zlen]; exact Nat.le_refl _), List.append_nil] at h2
    exact h2
  · cases h
theorem rdB_err (z : ByteArray) : (rdB z).2 = 0 ∨ (rdB z).2 = 70 := by
  unfold rdB
  split
  · exact .inl rfl
  · exact .inr rfl
end Go.Proofs.Ytgggcfhmcelioaa
