/- Tables are read as they were written: plain mathematics. No statement of the seat is proved here. -/
import Derived.Test.YtnndjobhcncanaaU22
namespace Go.Proofs.Ytnndjobhcncanaa
def cby (c : con) : List UInt8 := venc c.1.toNat ++ venc c.2.2.length ++ dby c.2.2 c.2.2.length
theorem tby_cby (t : TabD) : tby t = cby t.con := rfl
theorem nth_snoc (l : List Int) (x : Int) (i : Nat) (h : i < l.length) : nth (l ++ [x]) i = nth l i := by
  unfold nth
  rw [List.getElem?_append_left h]
theorem nth_end (l : List Int) (x : Int) : nth (l ++ [x]) l.length = x := by simp [nth]
theorem ahead_snoc (l : List Int) (x : Int) : ∀ j, j ≤ l.length → ahead (l ++ [x]) j = ahead l j
  | 0, _ => rfl
  | j + 1, h => nth_snoc l x j h
theorem dby_snoc (l : List Int) (x : Int) : ∀ j, j ≤ l.length → dby (l ++ [x]) j = dby l j
  | 0, _ => rfl
  | j + 1, h => by rw [dby, dby, dby_snoc l x j (by omega), nth_snoc l x j h, ahead_snoc l x j (by omega)]
theorem dby_split (l : List Int) (j : Nat) : ∀ m, j < m → ∃ r, dby l m = dby l j ++ (venc (nth l j - ahead l j).toNat ++ r)
  | 0, h => absurd h (by omega)
  | m + 1, h => by
    by_cases hm : j = m
    · subst hm
      exact ⟨[], by rw [dby, List.append_nil]⟩
    · obtain ⟨r, hr⟩ := dby_split l j m (by omega)
      exact ⟨r ++ venc (nth l m - ahead l m).toNat, by rw [dby, hr]; simp only [List.append_assoc]⟩
/-- Offsets are read as they were written. -/
theorem rdC_of {z : ByteArray} {i m : Nat} {l : List Int} {rest : List UInt8} (hd : z.data.toList.drop i = dby l m ++ rest) (hl : m ≤ l.length) (hs : ∀ k, k < m → 0 ≤ nth l k - ahead l k ∧ nth l k - ahead l k ≤ 1048576) : ∀ j, j ≤ m → rdC z i false j = (l.take j, ahead l j, i + (dby l j).length, false)
  | 0, _ => by simp [rdC, ahead, dby]
  | j + 1, hj => by
    have ih := rdC_of hd hl hs j (by omega)
    obtain ⟨r, hr⟩ := dby_split l j m (by omega)
    have hst := hs j (by omega)
    have hd2 : z.data.toList.drop (i + (dby l j).length) = venc (nth l j - ahead l j).toNat ++ (r ++ rest) := drop_behind (by rw [hd, hr]; simp only [List.append_assoc])
    have hn : numR z.data.toList (i + (dby l j).length) 0 1048576 = some ((nth l j - ahead l j).toNat, i + (dby l j).length + vlen (nth l j - ahead l j).toNat) := numR_of hd2 (by omega) (by omega) (by omega)
    rw [rdC, ih]
    dsimp only
    rw [rdNum_some hn]
    dsimp only
    have h1 : ahead l j + ((nth l j - ahead l j).toNat : Int) = nth l j := by omega
    rw [h1, List.take_succ_eq_append_getElem (by omega : j < l.length), nth_of (by omega), dby, List.length_append, venc_length, Nat.add_assoc]
    rfl
theorem oneR_of {z : ByteArray} {i most : Nat} {c : con} {rest : List UInt8} (hc : okC c) (hd : z.data.toList.drop i = cby c ++ rest) (hm : c.2.2.length ≤ most) (h63 : c.2.2.length ≤ 1099511627776) : oneR z i false most = (c, i + (cby c).length, false) := by
  obtain ⟨st, en, l⟩ := c
  obtain ⟨h1, h2, h3, h4, h5, h6, h7⟩ := hc
  dsimp only at h1 h2 h3 h4 h5 h6 h7 hm h63
  have hs : ∀ k, k < l.length → 0 ≤ nth l k - ahead l k ∧ nth l k - ahead l k ≤ 1048576 := by
    intro k hk
    have := h5 k hk
    have := h6 k hk
    cases k with
    | zero => simp only [ahead]; omega
    | succ k =>
      have := h7 k hk
      have := h5 k (by omega)
      simp only [ahead]
      omega
  have hd1 : z.data.toList.drop i = venc st.toNat ++ (venc l.length ++ (dby l l.length ++ rest)) := by rw [hd]; simp only [cby, List.append_assoc]
  have hn1 : numR z.data.toList i 0 1048576 = some (st.toNat, i + vlen st.toNat) := numR_of hd1 (by omega) (by omega) (by omega)
  have hd2 := drop_behind hd1
  rw [venc_length] at hd2
  have hn2 : numR z.data.toList (i + vlen st.toNat) 1 (most : Int) = some (l.length, i + vlen st.toNat + vlen l.length) := numR_of hd2 (by omega) (by omega) (by omega)
  have hd3 := drop_behind hd2
  rw [venc_length] at hd3
  have hc3 := rdC_of hd3 (Nat.le_refl _) hs l.length (Nat.le_refl _)
  rw [oneR_eq (a := (st.toNat, i + vlen st.toNat, false)) (b := (l.length, i + vlen st.toNat + vlen l.length, false)) (rdNum_some hn1) (rdNum_some hn2) hc3]
  dsimp only
  rw [List.take_length]
  have e1 : (st.toNat : Int) = st := by omega
  have e2 : (st.toNat : Int) + (l.length : Int) - 1 = en := by omega
  rw [e2, e1]
  refine congrArg _ (congrArg (fun x => (x, false)) ?_)
  simp only [cby, List.length_append, venc_length]
  omega
theorem aby_drop (l : List TabD) (j : Nat) (h : j < l.length) : ∃ r, aby l = aby (l.take j) ++ (cby (l[j]).con ++ r) := by
  refine ⟨aby (l.drop (j + 1)), ?_⟩
  rw [← tby_cby]
  have e : l = l.take j ++ (l[j] :: l.drop (j + 1)) := by rw [← List.drop_eq_getElem_cons h, List.take_append_drop]
  exact (congrArg aby e).trans (by simp only [aby, List.flatMap_append, List.flatMap_cons])
theorem dby_least (l : List Int) : ∀ j, j ≤ (dby l j).length
  | 0 => Nat.zero_le _
  | j + 1 => by
    have := dby_least l j
    have := vlen_pos (nth l j - ahead l j).toNat
    rw [dby, List.length_append, venc_length]
    omega
theorem cby_least (c : con) : c.2.2.length ≤ (cby c).length := by
  have := dby_least c.2.2 c.2.2.length
  simp only [cby, List.length_append]
  omega
/-- Tables that were written are read back. -/
theorem read_of {z : ByteArray} {l : List TabD} (hk : tabsOk l) (hl : ∀ t ∈ l, t.l.length = t.h.n) (hz : z.data.toList = aby l) (h63 : z.size ≤ 100000) : allR z ∧ (rdS z 3).1 = l.map TabD.con := by
  have hzl := bytes_len z
  have hone : ∀ j (h : j < l.length), oneR z (aby (l.take j)).length false z.size = (l[j].con, (aby (l.take j)).length + (cby l[j].con).length, false) := fun j h => by
    obtain ⟨r, hr⟩ := aby_drop l j h
    have hmem : l[j] ∈ l := List.getElem_mem _
    have hle : l[j].con.2.2.length ≤ z.size := by
      have h1 := cby_least l[j].con
      have h2 := congrArg List.length hr
      rw [← hz, List.length_append, List.length_append] at h2
      omega
    refine oneR_of ((TabD.ok_iff (hl _ hmem)).1 (hk.2 _ hmem)) (rest := r) ?_ hle (by omega)
    rw [hz, hr, List.drop_left]
  have hS : ∀ j, j ≤ l.length → rdS z j = ((l.take j).map TabD.con, (aby (l.take j)).length) := by
    intro j
    induction j with
    | zero => intro _; simp [rdS, aby]
    | succ j ih =>
      intro h
      rw [rdS, ih (by omega)]
      dsimp only
      rw [hone j (by omega), List.take_succ_eq_append_getElem (by omega : j < l.length), List.map_append, aby_snoc, List.length_append, tby_cby]
      rfl
  have h3 := hk.1
  have hS3 := hS 3 (by omega)
  rw [List.take_of_length_le (by omega)] at hS3
  refine ⟨⟨fun j hj => ?_, ?_⟩, by rw [hS3]⟩
  · have hmem : l[j]'(by omega) ∈ l := List.getElem_mem _
    unfold fineR
    rw [hS j (by omega)]
    dsimp only
    rw [hone j (by omega)]
    exact ⟨rfl, (TabD.ok_iff (hl _ hmem)).1 (hk.2 _ hmem)⟩
  · rw [hS3, ← hz]
    omega
/-! ### The other way -/
theorem rdNum_inv {l : List UInt8} {i : Nat} {bad : Bool} {a b : Int} (h : (rdNum l i bad a b).2.2 = false) : bad = false ∧ l.drop i = venc (rdNum l i bad a b).1 ++ l.drop (rdNum l i bad a b).2.1 := by
  cases bad with
  | true => simp [rdNum] at h
  | false =>
    cases hn : numR l i a b with
    | none => rw [rdNum_none hn] at h; simp at h
    | some x =>
      obtain ⟨n, i1⟩ := x
      rw [rdNum_some hn]
      exact ⟨rfl, (numR_inv hn).1⟩
theorem rdC_inv {z : ByteArray} {i : Nat} {bad : Bool} (hi : i ≤ z.size) : ∀ j, (rdC z i bad j).2.2.2 = false → bad = false ∧ z.data.toList.drop i = dby (rdC z i bad j).1 j ++ z.data.toList.drop (rdC z i bad j).2.2.1 ∧ (rdC z i bad j).2.1 = ahead (rdC z i bad j).1 j
  | 0, h => ⟨h, by simp [rdC, dby], rfl⟩
  | j + 1, h => by
    have hlen := (rdC_in (bad := bad) hi j).1
    rw [rdC] at h ⊢
    dsimp only at h ⊢
    obtain ⟨h1, h2⟩ := rdNum_inv h
    obtain ⟨h3, h4, h5⟩ := rdC_inv hi j h1
    generalize rdC z i bad j = R at h h1 h2 h3 h4 h5 hlen ⊢
    obtain ⟨rl, la, ri, rb⟩ := R
    dsimp only at h h1 h2 h3 h4 h5 hlen ⊢
    subst hlen
    generalize rdNum z.data.toList ri rb 0 1048576 = y at h h2 ⊢
    have e1 : (nth (rl ++ [la + (y.1 : Int)]) rl.length - ahead (rl ++ [la + (y.1 : Int)]) rl.length).toNat = y.1 := by
      rw [nth_end, ahead_snoc _ _ _ (Nat.le_refl _), ← h5]
      omega
    refine ⟨h3, ?_, by rw [ahead, nth_end]⟩
    rw [dby, e1, dby_snoc _ _ _ (Nat.le_refl _), h4, h2, List.append_assoc]
theorem oneR_inv {z : ByteArray} {i most : Nat} (hi : i ≤ z.size) (h : (oneR z i false most).2.2 = false) : z.data.toList.drop i = cby (oneR z i false most).1 ++ z.data.toList.drop (oneR z i false most).2.1 := by
  have hzl := bytes_len z
  generalize ha : rdNum z.data.toList i false 0 1048576 = a
  generalize hb : rdNum z.data.toList a.2.1 a.2.2 1 most = b
  generalize hc : rdC z b.2.1 b.2.2 b.1 = c
  rw [oneR_eq ha hb hc] at h ⊢
  dsimp only at h ⊢
  have ha1 := rdNum_in (l := z.data.toList) (i := i) (bad := false) (a := 0) (b := 1048576) (by omega) (by omega)
  rw [ha] at ha1
  have hb1 := rdNum_in (l := z.data.toList) (i := a.2.1) (bad := a.2.2) (a := 1) (b := most) (by omega) (by omega)
  rw [hb] at hb1
  have hc0 := rdC_inv (z := z) (i := b.2.1) (bad := b.2.2) (by omega) b.1
  have hc1 := (rdC_in (z := z) (i := b.2.1) (bad := b.2.2) (by omega) b.1).1
  rw [hc] at hc0 hc1
  obtain ⟨h1, h2, -⟩ := hc0 h
  have hb0 := rdNum_inv (l := z.data.toList) (i := a.2.1) (bad := a.2.2) (a := 1) (b := most)
  rw [hb] at hb0
  obtain ⟨h3, h4⟩ := hb0 h1
  have ha0 := rdNum_inv (l := z.data.toList) (i := i) (bad := false) (a := 0) (b := 1048576)
  rw [ha] at ha0
  obtain ⟨-, h5⟩ := ha0 h3
  rw [h5, h4, h2, cby]
  dsimp only
  rw [hc1, Int.toNat_natCast]
  simp only [List.append_assoc]
theorem rdS_inv {z : ByteArray} : ∀ j, (∀ k, k < j → fineR z k) → z.data.toList = (rdS z j).1.flatMap cby ++ z.data.toList.drop (rdS z j).2
  | 0, _ => by simp [rdS]
  | j + 1, h => by
    have ih := rdS_inv j (fun k hk => h k (by omega))
    have h1 := oneR_inv (rdS_in (z := z) j) (h j (by omega)).1
    rw [rdS]
    dsimp only
    rw [List.flatMap_append, List.append_assoc]
    conv => lhs; rw [ih]
    rw [h1]
    simp
theorem rdS_ok {z : ByteArray} : ∀ j, (∀ k, k < j → fineR z k) → ∀ c ∈ (rdS z j).1, okC c
  | 0, _ => fun c hc => by simp [rdS] at hc
  | j + 1, h => fun c hc => by
    rw [rdS] at hc
    rcases List.mem_append.1 hc with h' | h'
    · exact rdS_ok j (fun k hk => h k (by omega)) c h'
    · rw [List.mem_singleton] at h'
      exact h' ▸ (h j (by omega)).2
/-- What was read as tables was written as them. -/
theorem write_of {z : ByteArray} {l : List TabD} (ha : allR z) (hc : l.map TabD.con = (rdS z 3).1) (hl : ∀ t ∈ l, t.l.length = t.h.n) : tabsOk l ∧ aby l = z.data.toList := by
  have hzl := bytes_len z
  obtain ⟨h1, h2⟩ := ha
  refine ⟨⟨?_, fun t ht => ?_⟩, ?_⟩
  · have := congrArg List.length hc
    rw [List.length_map] at this
    rw [this]
    simp [rdS]
  · exact (TabD.ok_iff (hl t ht)).2 (rdS_ok 3 h1 _ (hc ▸ List.mem_map_of_mem ht))
  · have h3 := rdS_inv 3 h1
    rw [h2, List.drop_of_length_le (by omega), List.append_nil, ← hc] at h3
    rw [h3, aby, List.flatMap_map]
    rfl
end Go.Proofs.Ytnndjobhcncanaa
