/- Batches: their bytes. No statement of the seat is proved here. -/
import Derived.Test.YtnndjobhcncanaaS
namespace Go.Proofs.Ytnndjobhcncanaa
open Go.RowKit
theorem number_fr (A : Option Addr) (n c : Nat) (l : List UInt8) (x : Nat) (s : Store) (hb : Bs s A n c l) (hn : n ≤ 100000) (hx : x ≤ 1099511627776) :
    Fn Try.prog 45 #[.slice A n c, .int .i64 x] s [] (fun e s' h' => ∃ A' c', e = .returned (.tuple #[.slice A' (n + vlen x) c', .int .i64 0]) ∧ h' = [] ∧ Bs s' A' (n + vlen x) c' (l ++ venc x)) := Fn.frozen (number_ok A n c l x s hb hn hx)
/-- A batch's bytes. -/
def renc (r : Rec) : List UInt8 := tenc r.key ++ tenc r.value
def bhead (p e q : Nat) (t : Bool) (n : Nat) : List UInt8 := (((([] ++ venc p) ++ venc e) ++ venc q) ++ [if t then 1 else 0]) ++ venc n
def benc (p e q : Int) (t : Bool) (l : List Rec) : List UInt8 := bhead p.toNat e.toNat q.toNat t l.length ++ l.flatMap renc
end Go.Proofs.Ytnndjobhcncanaa
