/- The readers: Text. No statement of the seat is proved here. -/
import Derived.Test.YtnndjobhcncanaaR5
namespace Go.Proofs.Ytnndjobhcncanaa
open Go.RowKit
/-- The text that is read: how long it is, where it begins. -/
def txtR (l : List UInt8) (i : Nat) (most : Int) : Option (Nat × Nat) :=
  match numR l i 0 most with
  | some (n, i1) => if i1 + n ≤ l.length then some (n, i1) else none
  | none => none
end Go.Proofs.Ytnndjobhcncanaa
