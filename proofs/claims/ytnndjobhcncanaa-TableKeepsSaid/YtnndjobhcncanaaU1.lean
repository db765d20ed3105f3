/- Elements of slices, told by lists; parts and tables as data. No statement of the seat is proved here. -/
import Derived.Test.YtnndjobhcncanaaS0
namespace Go.Proofs.Ytnndjobhcncanaa
open Go.RowKit
section
variable {α : Type} {enc : α → List Value} {sz : Nat}
theorem fm_len (h : ∀ a, (enc a).length = sz) : ∀ l : List α, (l.flatMap enc).length = l.length * sz
  | [] => by simp
  | a :: l => by rw [List.flatMap_cons, List.length_append, h, fm_len h l, List.length_cons, Nat.succ_mul, Nat.add_comm]
theorem fm_drop (h : ∀ a, (enc a).length = sz) : ∀ (l : List α) (i : Nat), (l.flatMap enc).drop (i * sz) = (l.drop i).flatMap enc
  | l, 0 => by simp
  | [], i + 1 => by simp
  | a :: l, i + 1 => by
    rw [List.flatMap_cons, Nat.succ_mul, List.drop_append, h, List.drop_of_length_le (by rw [h]; omega), List.nil_append, show i * sz + sz - sz = i * sz from by omega, List.drop_succ_cons]
    exact fm_drop h l i
theorem fm_take (h : ∀ a, (enc a).length = sz) : ∀ (l : List α) (i : Nat), (l.flatMap enc).take (i * sz) = (l.take i).flatMap enc
  | l, 0 => by simp
  | [], i + 1 => by simp
  | a :: l, i + 1 => by
    rw [List.flatMap_cons, Nat.succ_mul, Nat.add_comm, List.take_append, h, List.take_of_length_le (by rw [h]; omega), show sz + i * sz - sz = i * sz from by omega, fm_take h l i, List.take_succ_cons, List.flatMap_cons]
theorem fm_at (h : ∀ a, (enc a).length = sz) (l : List α) (i : Nat) (hi : i < l.length) : ((l.flatMap enc).drop (i * sz)).take sz = enc l[i] := by
  rw [fm_drop h, List.drop_eq_getElem_cons hi, List.flatMap_cons, List.take_append_of_le_length (by rw [h]; omega), List.take_of_length_le (by rw [h]; omega)]
theorem fm_get (h : ∀ a, (enc a).length = sz) (l : List α) (i : Nat) (hi : i < l.length) (j : Nat) (hj : j < sz) : (l.flatMap enc)[i * sz + j]? = (enc l[i])[j]? := by
  rw [← fm_at h l i hi, List.getElem?_take, if_pos hj, List.getElem?_drop]
/-- The same at a whole number. -/
theorem fm_geti (h : ∀ a, (enc a).length = sz) (l : List α) (x : Int) (i : Nat) (hx : x.toNat = i) (hi : i < l.length) (j : Nat) (hj : j < sz) : (l.flatMap enc)[x.toNat * sz + j]? = (enc l[i])[j]? := by
  subst hx
  exact fm_get h l _ hi j hj
end
theorem Sl.flen {α : Type} {enc : α → List Value} {sz : Nat} {s : Store} {A : Option Addr} {n c : Nat} {l : List α} (he : ∀ a, (enc a).length = sz) (hz : 0 < sz) (h : Sl s A n c sz (l.flatMap enc)) : l.length = n := by
  have := h.len
  rw [fm_len he] at this
  exact Nat.eq_of_mul_eq_mul_right hz this
/-- Whole numbers in a slice. -/
abbrev icells (l : List Int) : List Value := l.flatMap fun x => [.int .i64 x]
abbrev Is (s : Store) (A : Option Addr) (n c : Nat) (l : List Int) : Prop := Sl s A n c 1 (icells l)
def nth (l : List Int) (i : Nat) : Int := (l[i]?).getD 0
theorem nth_of {l : List Int} {i : Nat} (h : i < l.length) : l[i] = nth l i := by simp [nth, h]
theorem icells_len (a : Int) : ([Value.int .i64 a]).length = 1 := rfl
theorem Sl.ilen {s : Store} {A : Option Addr} {n c : Nat} {l : List Int} (h : Is s A n c l) : l.length = n := Sl.flen icells_len (by decide) h
theorem icells_geti {l : List Int} {x : Int} {i : Nat} (hx : x.toNat = i) (hi : i < l.length) : (icells l)[x.toNat * 1]? = some (.int .i64 (nth l i)) := by
  have := fm_geti icells_len l x i hx hi 0 (by decide)
  rw [Nat.add_zero] at this
  rw [this, nth_of]
  rfl
theorem icells_at (l : List Int) (i : Nat) (hi : i < l.length) : (icells l)[(i : Int).toNat * 1]? = some (.int .i64 (nth l i)) := icells_geti (Int.toNat_natCast i) hi
end Go.Proofs.Ytnndjobhcncanaa
