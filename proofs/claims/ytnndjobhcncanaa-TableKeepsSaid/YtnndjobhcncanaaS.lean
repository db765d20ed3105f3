/- Batches of records. No statement of the seat is proved here. -/
import Derived.Test.YtnndjobhcncanaaF
import Derived.Test.YtnndjobhcncanaaS0
namespace Go.Proofs.Ytnndjobhcncanaa
open Go.RowKit
def fitsR (r : Rec) : Bool := decide (r.key.size ≤ 16 ∧ r.value.size ≤ 16)
def mayP (p e q : Int) (l : List Rec) : Prop := (1 ≤ p ∧ p ≤ 8) ∧ (0 ≤ e ∧ e ≤ 100) ∧ (1 ≤ l.length ∧ l.length ≤ 4) ∧ (0 ≤ q ∧ q ≤ 1048576 - l.length) ∧ l.all fitsR = true
instance (p e q : Int) (l : List Rec) : Decidable (mayP p e q l) := by unfold mayP; infer_instance

end Go.Proofs.Ytnndjobhcncanaa
