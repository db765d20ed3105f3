/- '&' with 2^40 - 1. No statement of the seat is proved here. -/
import Derived.Test.YtgggcfhmcelioaaC
namespace Go.Proofs.Ytgggcfhmcelioaa
open Go.RowKit
theorem PEv.and40 {P : Program} {f : Fr} {s : Store} {h : List Ent} {o : Oper} {t t' : TypeId} {x : Operand} {n : Int} (ho : o.op = .binOp .and t x (.const (.int .i64 1099511627775)) t') (hx : f.val x = some (.int .i64 n)) (h0 : 0 ≤ n) (h1 : n ≤ 9223372036854775807) : PEv P f s h o (.int .i64 (n % 1099511627776)) :=
  PEv.binI ho hx rfl fun w => by
    obtain ⟨m, rfl⟩ := Int.eq_ofNat_of_zero_le h0
    have e1 : (BitVec.ofInt IntKind.i64.bits (m : Int) &&& BitVec.ofInt IntKind.i64.bits 1099511627775).toNat = m &&& 1099511627775 := by
      simp only [BitVec.toNat_and, BitVec.toNat_ofInt]
      simp only [IntKind.bits]
      congr 1
      omega
    have e2 : m &&& 1099511627775 = m % 1099511627776 := by
      have := Nat.and_two_pow_sub_one_eq_mod m 40
      simpa using this
    simp only [binOp, Op.intBits, ne_eq, not_true_eq_false, if_false, Sem.run_pure]
    rw [e1, e2]
    have : IntKind.i64.wrap ((m % 1099511627776 : Nat) : Int) = (m : Int) % 1099511627776 := by rw [wrap_in (by omega) (by omega)]; omega
    rw [this]
end Go.Proofs.Ytgggcfhmcelioaa
