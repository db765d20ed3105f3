/- Batches as data. No statement of the seat is proved here. -/
import Derived.Test.YtnndjobhcncanaaK
namespace Go.Proofs.Ytnndjobhcncanaa
open Go.RowKit
/-- A record; a record's cells. -/
structure Rec where
  key : ByteArray
  value : ByteArray
instance : DecidableEq Rec := fun a b => decidable_of_iff (a.key = b.key ∧ a.value = b.value) (by cases a; cases b; simp)
def rcells (l : List Rec) : List Value := l.flatMap fun r => [.string r.key, .string r.value]
theorem rcells_cons (r : Rec) (l : List Rec) : rcells (r :: l) = .string r.key :: .string r.value :: rcells l := rfl
theorem rcells_drop : ∀ (l : List Rec) (i : Nat), (rcells l).drop (i * 2) = rcells (l.drop i)
  | l, 0 => by simp
  | [], i + 1 => by simp [rcells]
  | r :: l, i + 1 => by
    rw [rcells_cons, show (i + 1) * 2 = i * 2 + 1 + 1 from by omega]
    simp only [List.drop_succ_cons]
    exact rcells_drop l i
theorem rcells_take : ∀ (l : List Rec) (i : Nat), (rcells l).take (i * 2) = rcells (l.take i)
  | l, 0 => by simp [rcells]
  | [], i + 1 => by simp [rcells]
  | r :: l, i + 1 => by
    rw [rcells_cons, show (i + 1) * 2 = i * 2 + 1 + 1 from by omega]
    simp only [List.take_succ_cons]
    rw [rcells_take l i]
    rfl
theorem rcells_at (l : List Rec) (i : Nat) (hi : i < l.length) : ((rcells l).drop ((i : Int).toNat * 2)).take 2 = [.string l[i].key, .string l[i].value] ∧ (rcells l)[(i : Int).toNat * 2 + 0]? = some (.string l[i].key) ∧ (rcells l)[(i : Int).toNat * 2 + 1]? = some (.string l[i].value) := by
  rw [Int.toNat_natCast]
  have h : (rcells l).drop (i * 2) = .string l[i].key :: .string l[i].value :: rcells (l.drop (i + 1)) := by
    rw [rcells_drop, List.drop_eq_getElem_cons hi]
    rfl
  refine ⟨by rw [h]; rfl, ?_, ?_⟩
  · rw [← List.getElem?_drop, h]; rfl
  · rw [← List.getElem?_drop, h]; rfl
/-- A batch as a value; its records never change. -/
abbrev batV (p e q : Int) (t : Bool) (A : Option Addr) (n c : Nat) : Value := .agg [.int .i64 p, .int .i64 e, .int .i64 q, .bool t, .slice A n c].toArray
abbrev Rs (s : Store) (A : Option Addr) (n c : Nat) (l : List Rec) : Prop := Sl s A n c 2 (rcells l)
theorem Sl.rlen {s : Store} {A : Option Addr} {n c : Nat} {l : List Rec} (h : Rs s A n c l) : l.length = n := by
  have := h.len
  have h2 : ∀ l : List Rec, (rcells l).length = 2 * l.length := fun l => by induction l with
    | nil => rfl
    | cons r l ih => rw [rcells_cons]; simp [ih]; omega
  rw [h2] at this
  omega
end Go.Proofs.Ytnndjobhcncanaa
