/- Batches are read: what is read. No statement of the seat is proved here. -/
import Derived.Test.YtgggcfhmcelioaaR7
import Derived.Test.YtgggcfhmcelioaaV4
namespace Go.Proofs.Ytgggcfhmcelioaa
open Go.RowKit
theorem rdNum_le {l : List UInt8} {i : Nat} {bad : Bool} {a b : Int} (h : i ≤ l.length) : (rdNum l i bad a b).2.1 ≤ l.length := by
  cases bad with
  | true => exact h
  | false =>
    cases hn : numR l i a b with
    | none => rw [rdNum_none hn]; exact h
    | some x => obtain ⟨n, i1⟩ := x; rw [rdNum_some hn]; exact (numR_le hn).2
theorem rdTxt_le {z : ByteArray} {i : Nat} {bad : Bool} {b : Int} (h : i ≤ z.size) : (rdTxt z i bad b).2.1 ≤ z.size := by
  cases bad with
  | true => exact h
  | false =>
    cases hn : txtR z.data.toList i b with
    | none => rw [rdTxt_none hn]; exact h
    | some x => obtain ⟨n, i1⟩ := x; rw [rdTxt_some hn]; exact (txtR_inv hn).2.2.2.2
/-- So many records, read from i on. -/
def rdRecs (z : ByteArray) (i : Nat) (bad : Bool) : Nat → List Rec × Nat × Bool
  | 0 => ([], i, bad)
  | j + 1 =>
    let r := rdRecs z i bad j
    let k := rdTxt z r.2.1 r.2.2 16
    let v := rdTxt z k.2.1 k.2.2 16
    (r.1 ++ [⟨k.1, v.1⟩], v.2)
theorem rdRecs_le {z : ByteArray} {i : Nat} {bad : Bool} (h : i ≤ z.size) : ∀ j, (rdRecs z i bad j).2.1 ≤ z.size
  | 0 => h
  | j + 1 => rdTxt_le (rdTxt_le (rdRecs_le h j))
theorem rdRecs_length (z : ByteArray) (i : Nat) (bad : Bool) : ∀ j, (rdRecs z i bad j).1.length = j
  | 0 => rfl
  | j + 1 => by
    show ((rdRecs z i bad j).1 ++ [_]).length = _
    rw [List.length_append, rdRecs_length z i bad j]
    rfl
end Go.Proofs.Ytgggcfhmcelioaa
