/- A batch's bytes are read as it, and what is read has just those bytes: plain mathematics. No statement of the seat is proved here. -/
import Derived.Test.YtgggcfhmcelioaaM4
namespace Go.Proofs.Ytgggcfhmcelioaa
theorem rdNum_ok {l : List UInt8} {i : Nat} {bad : Bool} {a b : Int} (h : (rdNum l i bad a b).2.2 = false) : bad = false ∧ l.drop i = venc (rdNum l i bad a b).1 ++ l.drop (rdNum l i bad a b).2.1 ∧ a ≤ (rdNum l i bad a b).1 ∧ ((rdNum l i bad a b).1 : Int) ≤ b := by
  cases bad with
  | true => cases h
  | false =>
    cases hn : numR l i a b with
    | none => rw [rdNum_none hn] at h; cases h
    | some x =>
      obtain ⟨n, i1⟩ := x
      rw [rdNum_some hn]
      obtain ⟨h1, h2, h3, h4, h5⟩ := numR_inv hn
      exact ⟨rfl, h1, h3, h4⟩
theorem rdTxt_ok {z : ByteArray} {i : Nat} {bad : Bool} {b : Int} (h : (rdTxt z i bad b).2.2 = false) : bad = false ∧ z.data.toList.drop i = tenc (rdTxt z i bad b).1 ++ z.data.toList.drop (rdTxt z i bad b).2.1 ∧ ((rdTxt z i bad b).1.size : Int) ≤ b := by
  cases bad with
  | true => cases h
  | false =>
    cases hn : txtR z.data.toList i b with
    | none => rw [rdTxt_none hn] at h; cases h
    | some x =>
      obtain ⟨n, i1⟩ := x
      rw [rdTxt_some hn]
      obtain ⟨h1, h2, h3, h4, h5⟩ := txtR_inv hn
      exact ⟨rfl, h1, by show ((z.extract i1 (i1 + n)).size : Int) ≤ b; rw [h2]; exact h3⟩
theorem rdRecs_ok {z : ByteArray} {i : Nat} {bad : Bool} : ∀ (j : Nat), (rdRecs z i bad j).2.2 = false → bad = false ∧ z.data.toList.drop i = (rdRecs z i bad j).1.flatMap renc ++ z.data.toList.drop (rdRecs z i bad j).2.1
  | 0, h => ⟨h, rfl⟩
  | j + 1, h => by
    have hs : rdRecs z i bad (j + 1) = ((rdRecs z i bad j).1 ++ [⟨(rdTxt z (rdRecs z i bad j).2.1 (rdRecs z i bad j).2.2 16).1, (rdTxt z (rdTxt z (rdRecs z i bad j).2.1 (rdRecs z i bad j).2.2 16).2.1 (rdTxt z (rdRecs z i bad j).2.1 (rdRecs z i bad j).2.2 16).2.2 16).1⟩], (rdTxt z (rdTxt z (rdRecs z i bad j).2.1 (rdRecs z i bad j).2.2 16).2.1 (rdTxt z (rdRecs z i bad j).2.1 (rdRecs z i bad j).2.2 16).2.2 16).2) := rfl
    rw [hs] at h ⊢
    obtain ⟨h1, h2, _⟩ := rdTxt_ok h
    obtain ⟨h3, h4, _⟩ := rdTxt_ok h1
    obtain ⟨h5, h6⟩ := rdRecs_ok j h3
    refine ⟨h5, ?_⟩
    dsimp only
    rw [List.flatMap_append, List.flatMap_cons, List.flatMap_nil, List.append_nil, renc, List.append_assoc, List.append_assoc, ← h2, ← h4, ← h6]
theorem rdNum_of {l rest : List UInt8} {i x : Nat} {a b : Int} (h : l.drop i = venc x ++ rest) (hx : x ≤ 1099511627776) (ha : a ≤ x) (hb : (x : Int) ≤ b) : rdNum l i false a b = (x, i + vlen x, false) ∧ l.drop (i + vlen x) = rest :=
  ⟨rdNum_some (numR_of h hx ha hb), by rw [← venc_length]; exact drop_behind h⟩
theorem rdTxt_of {z s : ByteArray} {rest : List UInt8} {i : Nat} {b : Int} (h : z.data.toList.drop i = tenc s ++ rest) (hb : (s.size : Int) ≤ b) (hs : s.size ≤ 1099511627776) : rdTxt z i false b = (s, i + vlen s.size + s.size, false) ∧ z.data.toList.drop (i + vlen s.size + s.size) = rest := by
  obtain ⟨h1, h2, h3⟩ := txtR_of h hb hs
  exact ⟨by rw [rdTxt_some h1, h2], h3⟩
theorem rdRecs_of {z : ByteArray} {rest : List UInt8} {i : Nat} (l : List Rec) (h : z.data.toList.drop i = l.flatMap renc ++ rest) (hl : l.all fitsR = true) : ∀ j, j ≤ l.length → ∃ k, rdRecs z i false j = (l.take j, k, false) ∧ z.data.toList.drop k = (l.drop j).flatMap renc ++ rest
  | 0, _ => ⟨i, rfl, h⟩
  | j + 1, hj => by
    obtain ⟨k, h1, h2⟩ := rdRecs_of l h hl j (by omega)
    have hf := List.all_eq_true.1 hl (l[j]'(by omega)) (List.getElem_mem _)
    rw [List.drop_eq_getElem_cons (by omega : j < l.length), List.flatMap_cons, renc, List.append_assoc, List.append_assoc] at h2
    have hstep := List.take_succ_eq_append_getElem (l := l) (i := j) (by omega)
    generalize l[j]'(by omega) = r at hf h2 hstep
    simp only [fitsR, decide_eq_true_eq] at hf
    obtain ⟨h3, h4⟩ := rdTxt_of (b := 16) h2 (by omega) (by omega)
    obtain ⟨h5, h6⟩ := rdTxt_of (b := 16) h4 (by omega) (by omega)
    refine ⟨_, ?_, h6⟩
    have hs : rdRecs z i false (j + 1) = ((rdRecs z i false j).1 ++ [⟨(rdTxt z (rdRecs z i false j).2.1 (rdRecs z i false j).2.2 16).1, (rdTxt z (rdTxt z (rdRecs z i false j).2.1 (rdRecs z i false j).2.2 16).2.1 (rdTxt z (rdRecs z i false j).2.1 (rdRecs z i false j).2.2 16).2.2 16).1⟩], (rdTxt z (rdTxt z (rdRecs z i false j).2.1 (rdRecs z i false j).2.2 16).2.1 (rdTxt z (rdRecs z i false j).2.1 (rdRecs z i false j).2.2 16).2.2 16).2) := rfl
    rw [hs, h1]
    dsimp only
    rw [h3]
    dsimp only
    rw [h5, hstep]
end Go.Proofs.Ytgggcfhmcelioaa
