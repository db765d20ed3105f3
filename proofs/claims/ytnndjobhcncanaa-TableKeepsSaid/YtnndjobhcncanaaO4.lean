/- What comes in, opened: slices of tables. No statement of the seat is proved here. -/
import Derived.Test.YtnndjobhcncanaaO3
import Derived.Test.YtnndjobhcncanaaU18
namespace Go.Proofs.Ytnndjobhcncanaa
open Go.RowKit
theorem open_tables {H : Type} {enc : TypeId × Value → H} {w : World} {fuel : Nat} {cs : List Value} {x : DataW H × List MemPlace} (h : DataW.trod enc Try.prog w 0 (fun _ => true) true fuel 50 cs = some x) : ∃ (hd : Hd) (l : List TabD), cs = [.slice hd.A hd.n hd.c] ∧ Ts (hp w) hd l := by
  obtain ⟨hd, l, h1, h2, h3, -⟩ := open_fm (en := TabD.enc) (okA := fun t => t.laid (hp w)) Try.underlying50 (sz := 3) (by kernel_rfl) (fun n cs' y hl hy => open_table hl hy) h
  exact ⟨hd, l, h1, ⟨h2, h3⟩⟩
end Go.Proofs.Ytnndjobhcncanaa
