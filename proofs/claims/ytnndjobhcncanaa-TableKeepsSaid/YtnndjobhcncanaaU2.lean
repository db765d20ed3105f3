/- Parts and tables as data. No statement of the seat is proved here. -/
import Derived.Test.YtnndjobhcncanaaU1
namespace Go.Proofs.Ytnndjobhcncanaa
open Go.RowKit
/-- Where a slice stands, how long it is, how much room it has. -/
structure Hd where
  A : Option Addr
  n : Nat
  c : Nat
abbrev Hd.v (h : Hd) : Value := .slice h.A h.n h.c
structure RowD where
  off : Int
  pid : Int
  seq : Int
  key : ByteArray
  value : ByteArray
def RowD.enc (r : RowD) : List Value := [.int .i64 r.off, .int .i64 r.pid, .int .i64 r.seq, .string r.key, .string r.value]
structure BatD where
  p : Int
  e : Int
  q : Int
  t : Bool
  h : Hd
  l : List Rec
def BatD.enc (b : BatD) : List Value := [.int .i64 b.p, .int .i64 b.e, .int .i64 b.q, .bool b.t, .slice b.h.A b.h.n b.h.c]
structure OpenD where
  pid : Int
  epoch : Int
  h : Hd
  l : List BatD
def OpenD.enc (o : OpenD) : List Value := [.int .i64 o.pid, .int .i64 o.epoch, .slice o.h.A o.h.n o.h.c]
structure ProdD where
  pid : Int
  epoch : Int
  next : Int
  h : Hd
def ProdD.enc (p : ProdD) : List Value := [.int .i64 p.pid, .int .i64 p.epoch, .int .i64 p.next, .slice p.h.A p.h.n p.h.c]
structure PartD where
  st : Int
  en : Int
  hr : Hd
  ho : Hd
  hp : Hd
  rows : List RowD
  opens : List OpenD
  prods : List ProdD
def PartD.cells (p : PartD) : List Value := [.int .i64 p.st, .int .i64 p.en, .slice p.hr.A p.hr.n p.hr.c, .slice p.ho.A p.ho.n p.ho.c, .slice p.hp.A p.hp.n p.hp.c]
abbrev PartD.v (p : PartD) : Value := .agg [Value.int .i64 p.st, .int .i64 p.en, .slice p.hr.A p.hr.n p.hr.c, .slice p.ho.A p.ho.n p.ho.c, .slice p.hp.A p.hp.n p.hp.c].toArray
def BatD.laid (s : Store) (b : BatD) : Prop := Rs s b.h.A b.h.n b.h.c b.l
def OpenD.laid (s : Store) (o : OpenD) : Prop := Sl s o.h.A o.h.n o.h.c 5 (o.l.flatMap BatD.enc) ∧ ∀ b ∈ o.l, b.laid s
structure PartD.laid (s : Store) (p : PartD) : Prop where
  rows : Sl s p.hr.A p.hr.n p.hr.c 5 (p.rows.flatMap RowD.enc)
  opens : Sl s p.ho.A p.ho.n p.ho.c 3 (p.opens.flatMap OpenD.enc)
  oin : ∀ o ∈ p.opens, o.laid s
  prods : Sl s p.hp.A p.hp.n p.hp.c 4 (p.prods.flatMap ProdD.enc)
theorem BatD.laid.le {s s' : Store} {b : BatD} (h : b.laid s) (hle : s.le s') : b.laid s' := Sl.le h hle
theorem OpenD.laid.le {s s' : Store} {o : OpenD} (h : o.laid s) (hle : s.le s') : o.laid s' := ⟨h.1.le hle, fun b hb => (h.2 b hb).le hle⟩
theorem PartD.laid.le {s s' : Store} {p : PartD} (h : p.laid s) (hle : s.le s') : p.laid s' := ⟨h.rows.le hle, h.opens.le hle, fun o ho => (h.oin o ho).le hle, h.prods.le hle⟩
theorem row_len (r : RowD) : r.enc.length = 5 := rfl
theorem bat_len (r : BatD) : r.enc.length = 5 := rfl
theorem open_len (r : OpenD) : r.enc.length = 3 := rfl
theorem prod_len (r : ProdD) : r.enc.length = 4 := rfl
/-- The offset of a row by its place; the producer of an open transaction. -/
def PartD.of (p : PartD) (i : Nat) : Int := (p.rows[i]?.map RowD.off).getD 0
def PartD.op (p : PartD) (i : Nat) : Int := (p.opens[i]?.map OpenD.pid).getD 0
def PartD.ob (p : PartD) (i : Nat) : Nat := (p.opens[i]?.map fun o => o.h.n).getD 0
theorem PartD.row_at {s : Store} {p : PartD} (h : p.laid s) (x : Int) (i : Nat) (hx : x.toNat = i) (hi : i < p.hr.n) : (p.rows.flatMap RowD.enc)[x.toNat * 5 + 0]? = some (.int .i64 (p.of i)) := by
  have hl := h.rows.flen row_len (by decide)
  rw [fm_geti row_len p.rows x i hx (by omega) 0 (by decide)]
  have hi' : i < p.rows.length := by omega
  simp [PartD.of, RowD.enc, hi']
theorem PartD.rowE {s : Store} {p : PartD} (h : p.laid s) (i : Nat) (hi : i < p.hr.n) : ∃ r : RowD, r.off = p.of i ∧ ((p.rows.flatMap RowD.enc).drop ((i : Int).toNat * 5)).take 5 = [.int .i64 r.off, .int .i64 r.pid, .int .i64 r.seq, .string r.key, .string r.value] := by
  have hl := h.rows.flen row_len (by decide)
  have hi' : i < p.rows.length := by omega
  refine ⟨p.rows[i], by simp [PartD.of, hi'], ?_⟩
  rw [Int.toNat_natCast, fm_at row_len p.rows i (by omega)]
  rfl
theorem PartD.text_at {s : Store} {p : PartD} (h : p.laid s) (i : Nat) (hi : i < p.hr.n) : ∃ k v, (p.rows.flatMap RowD.enc)[(i : Int).toNat * 5 + 3]? = some (.string k) ∧ (p.rows.flatMap RowD.enc)[(i : Int).toNat * 5 + 4]? = some (.string v) := by
  have hl := h.rows.flen row_len (by decide)
  have hi' : i < p.rows.length := by omega
  exact ⟨_, _, fm_geti row_len p.rows i i (Int.toNat_natCast i) hi' 3 (by decide), fm_geti row_len p.rows i i (Int.toNat_natCast i) hi' 4 (by decide)⟩
theorem PartD.open_at {s : Store} {p : PartD} (h : p.laid s) (x : Int) (i : Nat) (hx : x.toNat = i) (hi : i < p.ho.n) : ∃ o : OpenD, o.laid s ∧ o.pid = p.op i ∧ o.h.n = p.ob i ∧ (p.opens.flatMap OpenD.enc)[x.toNat * 3 + 0]? = some (.int .i64 o.pid) ∧ (p.opens.flatMap OpenD.enc)[x.toNat * 3 + 2]? = some (.slice o.h.A o.h.n o.h.c) ∧
    ((p.opens.flatMap OpenD.enc).drop (x.toNat * 3)).take 3 = [.int .i64 o.pid, .int .i64 o.epoch, .slice o.h.A o.h.n o.h.c] := by
  have hl := h.opens.flen open_len (by decide)
  have hi' : i < p.opens.length := by omega
  refine ⟨p.opens[i], h.oin _ (List.getElem_mem _), by simp [PartD.op, hi'], by simp [PartD.ob, hi'], fm_geti open_len p.opens x i hx hi' 0 (by decide), fm_geti open_len p.opens x i hx hi' 2 (by decide), ?_⟩
  subst hx
  rw [fm_at open_len p.opens _ hi']
  rfl
theorem PartD.prod_at {s : Store} {p : PartD} (h : p.laid s) (i : Nat) (hi : i < p.hp.n) : ∃ h : Hd, (p.prods.flatMap ProdD.enc)[(i : Int).toNat * 4 + 3]? = some (.slice h.A h.n h.c) := by
  have hl := h.prods.flen prod_len (by decide)
  have hi' : i < p.prods.length := by omega
  exact ⟨_, fm_geti prod_len p.prods i i (Int.toNat_natCast i) hi' 3 (by decide)⟩
theorem bat_at {s : Store} {o : OpenD} (h : o.laid s) (i : Nat) (hi : i < o.h.n) : ∃ b : BatD, b.laid s ∧ (o.l.flatMap BatD.enc)[(i : Int).toNat * 5 + 4]? = some (.slice b.h.A b.h.n b.h.c) := by
  have hl := h.1.flen bat_len (by decide)
  have hi' : i < o.l.length := by omega
  exact ⟨o.l[i], h.2 _ (List.getElem_mem _), fm_geti bat_len o.l i i (Int.toNat_natCast i) hi' 4 (by decide)⟩
/-- What a part has that may be read. -/
structure PartD.ok (p : PartD) : Prop where
  st : 0 ≤ p.st
  se : p.st ≤ p.en
  en : p.en ≤ 1048576
  lo : ∀ i, i < p.hr.n → p.st ≤ p.of i
  hi : ∀ i, i < p.hr.n → p.of i < p.en
  up : ∀ i, i + 1 < p.hr.n → p.of i < p.of (i + 1)
  bs : ∀ i, i < p.ho.n → p.ob i ≠ 0
  ou : ∀ i, i + 1 < p.ho.n → p.op i < p.op (i + 1)
end Go.Proofs.Ytnndjobhcncanaa
