/- Batches: their rows. No statement of the seat is proved here. -/
import Derived.Test.YtgggcfhmcelioaaS
namespace Go.Proofs.Ytgggcfhmcelioaa
open Go.RowKit
/-- A row's cells; the rows' cells of a batch. -/
def rwc (o p q : Int) (r : Rec) : List Value := [.int .i64 o, .int .i64 p, .int .i64 q, .string r.key, .string r.value]
def rowsC (o p q : Int) : Nat → List Rec → List Value
  | _, [] => []
  | i, r :: l => rwc (o + i) p (q + i) r ++ rowsC o p q (i + 1) l
theorem rowsC_append (o p q : Int) : ∀ (i : Nat) (a b : List Rec), rowsC o p q i (a ++ b) = rowsC o p q i a ++ rowsC o p q (i + a.length) b
  | i, [], b => by simp [rowsC]
  | i, r :: a, b => by
    rw [List.cons_append, rowsC, rowsC_append o p q (i + 1) a b, rowsC, List.append_assoc, List.length_cons, Nat.add_right_comm, Nat.add_assoc]
theorem rowsC_one (o p q : Int) : ∀ (i : Nat) (l : List Rec), ∀ u ∈ rowsC o p q i l, u.oneCell' = true
  | i, [], u, h => by simp [rowsC] at h
  | i, r :: l, u, h => by
    rw [rowsC, List.mem_append] at h
    rcases h with h | h
    · simp only [rwc, List.mem_cons, List.not_mem_nil, or_false] at h
      rcases h with rfl | rfl | rfl | rfl | rfl <;> rfl
    · exact rowsC_one o p q (i + 1) l u h
theorem rwc_one (o p q : Int) (r : Rec) : ∀ u ∈ rwc o p q r, u.oneCell' = true := by
  intro u h
  simp only [rwc, List.mem_cons, List.not_mem_nil, or_false] at h
  rcases h with rfl | rfl | rfl | rfl | rfl <;> rfl
theorem rowsC_step (o p q : Int) (l : List Rec) (i : Nat) (r : Rec) (h : l.take (i + 1) = l.take i ++ [r]) (hi : (l.take i).length = i) : rowsC o p q 0 (l.take (i + 1)) = rowsC o p q 0 (l.take i) ++ rwc (o + i) p (q + i) r := by
  rw [h, rowsC_append, hi, Nat.zero_add, rowsC, rowsC, List.append_nil]
set_option maxHeartbeats 8000000 in
theorem rows_calls (p e q : Int) (t : Bool) (A : Option Addr) (n c : Nat) (l : List Rec) (off : Int) (s : Store) (hr : Rs s A n c l) (hn : n ≤ 1000) (hq : 0 ≤ q ∧ q ≤ 1099511627776) (ho : 0 ≤ off ∧ off ≤ 1099511627776) :
    Fn Try.prog 30 #[batV p e q t A n c, .int .i64 off] s [] (fun x s' h' => ∃ A' c', x = .returned (.slice A' n c') ∧ h' = [] ∧ Sl s' A' n c' 5 (rowsC off p q 0 l)) := by
  have hl := hr.rlen
  refine Fn.intro (args := [batV p e q t A n c, .int .i64 off]) Try.func30 rfl Try.ntmps30 (Nat.le_of_ble_eq_true rfl) (fun C ok hh => ?_)
  repeat (first | (with_reducible refine GL.nil ?_) | (with_reducible refine G.region ?_) | (with_reducible refine G.seq ?_) | (with_reducible refine G.skip ?_) | (with_reducible refine G.block ?_) | (with_reducible refine G.inBlock ?_) | (with_reducible refine G.label ?_) | ((with_reducible show GL _ _ _ _ (_ :: _) _ _ _ _); first | refine GL.p ?_ | refine GL.p (he := by first | (first | exact PEv.eqC rfl rfl rfl rfl | exact PEv.neC rfl rfl rfl rfl | exact PEv.buildA rfl rfl rfl | exact PEv.indexArr rfl rfl rfl (by decide) (by decide) rfl rfl | (apply PEv.string rfl rfl; assumption) | exact PEv.cut2 rfl rfl rfl rfl (by omega) (by omega) (by omega) (by omega))) ?_ | refine GL.store ?_ | refine GL.storeN ?_ | refine GL.boxA (fun g => ?_) | refine GL.box1 (fun g => ?_) | refine GL.alloc1 (fun g => ?_) | refine GL.allocA (fun g => ?_) | refine GL.no ?_) | ((with_reducible show G _ _ _ (Item.code (Code.cond _ _ _) :: _) _ _ _); first | refine G.condT rfl ?_ | refine G.condF rfl ?_ | refine G.condYes rfl (by omega) ?_ | refine G.condNo rfl (by omega) ?_) | (with_reducible refine G.exit rfl ?_))
  refine G.loop (fun x : Option (Option Addr × Nat) × Nat => [(1, .int .i64 off), (2, .pointer (some ⟨g, 0, none⟩)), (5, .int .i64 1), (11, .slice A n c), (12, .int .i64 n), (13, .int .i64 x.2), (4, match x.1 with | none => .slice none 0 0 | some y => .slice y.1 x.2 y.2)])
    (fun x => match x.1 with | none => [.blk g (.cells [.int .i64 p, .int .i64 e, .int .i64 q, .bool t, .slice A n c].toArray 24 (0, 0))] | some y => [.buf (.slice y.1 x.2 y.2) 49 5 x.2 (rowsC off p q 0 (l.take x.2)), .blk g (.cells [.int .i64 p, .int .i64 e, .int .i64 q, .bool t, .slice A n c].toArray 24 (0, 0))])
    (fun x s' => s.le s' ∧ (x.1 = none → x.2 = 0) ∧ x.2 ≤ n) (fun x => n - x.2) (none, 0) (by ((repeat' (first | exact trivial | refine And.intro ?_ ?_)); all_goals (first | (refine congrArg some (congrArg (Value.int _) ?_); (try dsimp only); omega) | exact rfl))) (by (first | exact Split.refl _ | ((try dsimp only); repeat (first | exact Split.nil | (apply Split.cons; (repeat (first | exact Pick.head | apply Pick.tail))))))) ⟨Store.le.refl _, fun _ => rfl, Nat.zero_le _⟩ ?_
  rintro ⟨y, i⟩ s1 ⟨hle, hy, hi⟩ ih
  dsimp only at hy hi ⊢
  have hr1 := hr.le hle
  by_cases hlt : i < n
  · obtain ⟨hE, -, -⟩ := rcells_at l i (by omega)
    have hstep := List.take_succ_eq_append_getElem (l := l) (i := i) (by omega)
    generalize l[i]'(by omega) = r at hE hstep
    have hrs := rowsC_step off p q l i r hstep (by rw [List.length_take]; omega)
    cases y with
    | none =>
      obtain rfl := hy rfl
      dsimp only
      repeat (first | (with_reducible refine GL.nil ?_) | (with_reducible refine G.region ?_) | (with_reducible refine G.seq ?_) | (with_reducible refine G.skip ?_) | (with_reducible refine G.block ?_) | (with_reducible refine G.inBlock ?_) | (with_reducible refine G.label ?_) | ((with_reducible show GL _ _ _ _ (_ :: _) _ _ _ _); first | refine GL.p ?_ | refine GL.p (he := by first | (first | exact PEv.eqC rfl rfl rfl rfl | exact PEv.neC rfl rfl rfl rfl | exact PEv.buildA rfl rfl rfl | exact PEv.indexArr rfl rfl rfl (by decide) (by decide) rfl rfl | (apply PEv.string rfl rfl; assumption) | exact PEv.cut2 rfl rfl rfl rfl (by omega) (by omega) (by omega) (by omega))) ?_ | refine GL.store ?_ | refine GL.storeN ?_ | refine GL.boxA (fun g => ?_) | refine GL.box1 (fun g => ?_) | refine GL.alloc1 (fun g => ?_) | refine GL.allocA (fun g => ?_) | refine GL.no ?_) | ((with_reducible show G _ _ _ (Item.code (Code.cond _ _ _) :: _) _ _ _); first | refine G.condT rfl ?_ | refine G.condF rfl ?_ | refine G.condYes rfl (by omega) ?_ | refine G.condNo rfl (by omega) ?_) | (with_reducible refine G.exit rfl ?_))
      rw [Int.one_mul]
      refine GL.re 37 (.agg (rwc (off + (0 : Nat)) p (q + (0 : Nat)) r).toArray) ?_
      refine GL.litA rfl fun A1 s2 hle1 hs2 => ?_
      refine GL.growS rfl (Src.of_sl hs2 (rwc_one _ _ _ r)) (Sl.nil s2 5) (by omega) (by omega) (by omega) (by decide) fun A2 c2 => ?_
      repeat (first | (with_reducible refine GL.nil ?_) | (with_reducible refine G.region ?_) | (with_reducible refine G.seq ?_) | (with_reducible refine G.skip ?_) | (with_reducible refine G.block ?_) | (with_reducible refine G.inBlock ?_) | (with_reducible refine G.label ?_) | ((with_reducible show GL _ _ _ _ (_ :: _) _ _ _ _); first | refine GL.p ?_ | refine GL.p (he := by first | (first | exact PEv.eqC rfl rfl rfl rfl | exact PEv.neC rfl rfl rfl rfl | exact PEv.buildA rfl rfl rfl | exact PEv.indexArr rfl rfl rfl (by decide) (by decide) rfl rfl | (apply PEv.string rfl rfl; assumption) | exact PEv.cut2 rfl rfl rfl rfl (by omega) (by omega) (by omega) (by omega))) ?_ | refine GL.store ?_ | refine GL.storeN ?_ | refine GL.boxA (fun g => ?_) | refine GL.box1 (fun g => ?_) | refine GL.alloc1 (fun g => ?_) | refine GL.allocA (fun g => ?_) | refine GL.no ?_) | ((with_reducible show G _ _ _ (Item.code (Code.cond _ _ _) :: _) _ _ _); first | refine G.condT rfl ?_ | refine G.condF rfl ?_ | refine G.condYes rfl (by omega) ?_ | refine G.condNo rfl (by omega) ?_) | (with_reducible refine G.exit rfl ?_))
      refine ih (some (A2, c2), 1) _ _ _ _ (by ((repeat' (first | exact trivial | refine And.intro ?_ ?_)); all_goals (first | (refine congrArg some (congrArg (Value.int _) ?_); (try dsimp only); omega) | exact rfl))) (by rw [hrs]; (first | exact Split.refl _ | ((try dsimp only); repeat (first | exact Split.nil | (apply Split.cons; (repeat (first | exact Pick.head | apply Pick.tail))))))) ⟨hle.trans hle1, (fun h => by cases h), hlt⟩ (by dsimp only; omega)
    | some y =>
      obtain ⟨A2, c2⟩ := y
      dsimp only
      repeat (first | (with_reducible refine GL.nil ?_) | (with_reducible refine G.region ?_) | (with_reducible refine G.seq ?_) | (with_reducible refine G.skip ?_) | (with_reducible refine G.block ?_) | (with_reducible refine G.inBlock ?_) | (with_reducible refine G.label ?_) | ((with_reducible show GL _ _ _ _ (_ :: _) _ _ _ _); first | refine GL.p ?_ | refine GL.p (he := by first | (first | exact PEv.eqC rfl rfl rfl rfl | exact PEv.neC rfl rfl rfl rfl | exact PEv.buildA rfl rfl rfl | exact PEv.indexArr rfl rfl rfl (by decide) (by decide) rfl rfl | (apply PEv.string rfl rfl; assumption) | exact PEv.cut2 rfl rfl rfl rfl (by omega) (by omega) (by omega) (by omega))) ?_ | refine GL.store ?_ | refine GL.storeN ?_ | refine GL.boxA (fun g => ?_) | refine GL.box1 (fun g => ?_) | refine GL.alloc1 (fun g => ?_) | refine GL.allocA (fun g => ?_) | refine GL.no ?_) | ((with_reducible show G _ _ _ (Item.code (Code.cond _ _ _) :: _) _ _ _); first | refine G.condT rfl ?_ | refine G.condF rfl ?_ | refine G.condYes rfl (by omega) ?_ | refine G.condNo rfl (by omega) ?_) | (with_reducible refine G.exit rfl ?_))
      rw [Int.one_mul]
      refine GL.re 37 (.agg (rwc (off + i) p (q + i) r).toArray) ?_
      refine GL.litA rfl fun A1 s2 hle1 hs2 => ?_
      refine GL.appS rfl rfl (Src.of_sl hs2 (rwc_one _ _ _ r)) (by omega) (by omega) fun A3 c3 => ?_
      repeat (first | (with_reducible refine GL.nil ?_) | (with_reducible refine G.region ?_) | (with_reducible refine G.seq ?_) | (with_reducible refine G.skip ?_) | (with_reducible refine G.block ?_) | (with_reducible refine G.inBlock ?_) | (with_reducible refine G.label ?_) | ((with_reducible show GL _ _ _ _ (_ :: _) _ _ _ _); first | refine GL.p ?_ | refine GL.p (he := by first | (first | exact PEv.eqC rfl rfl rfl rfl | exact PEv.neC rfl rfl rfl rfl | exact PEv.buildA rfl rfl rfl | exact PEv.indexArr rfl rfl rfl (by decide) (by decide) rfl rfl | (apply PEv.string rfl rfl; assumption) | exact PEv.cut2 rfl rfl rfl rfl (by omega) (by omega) (by omega) (by omega))) ?_ | refine GL.store ?_ | refine GL.storeN ?_ | refine GL.boxA (fun g => ?_) | refine GL.box1 (fun g => ?_) | refine GL.alloc1 (fun g => ?_) | refine GL.allocA (fun g => ?_) | refine GL.no ?_) | ((with_reducible show G _ _ _ (Item.code (Code.cond _ _ _) :: _) _ _ _); first | refine G.condT rfl ?_ | refine G.condF rfl ?_ | refine G.condYes rfl (by omega) ?_ | refine G.condNo rfl (by omega) ?_) | (with_reducible refine G.exit rfl ?_))
      refine ih (some (A3, c3), i + 1) _ _ _ _ (by ((repeat' (first | exact trivial | refine And.intro ?_ ?_)); all_goals (first | (refine congrArg some (congrArg (Value.int _) ?_); (try dsimp only); omega) | exact rfl))) (by rw [hrs]; (first | exact Split.refl _ | ((try dsimp only); repeat (first | exact Split.nil | (apply Split.cons; (repeat (first | exact Pick.head | apply Pick.tail))))))) ⟨hle.trans hle1, (fun h => by cases h), hlt⟩ (by dsimp only; omega)
  · obtain rfl : i = n := by omega
    cases y with
    | none =>
      obtain rfl := hy rfl
      have hl0 : l = [] := List.length_eq_zero_iff.1 hl
      subst hl0
      dsimp only
      repeat (first | (with_reducible refine GL.nil ?_) | (with_reducible refine G.region ?_) | (with_reducible refine G.seq ?_) | (with_reducible refine G.skip ?_) | (with_reducible refine G.block ?_) | (with_reducible refine G.inBlock ?_) | (with_reducible refine G.label ?_) | ((with_reducible show GL _ _ _ _ (_ :: _) _ _ _ _); first | refine GL.p ?_ | refine GL.p (he := by first | (first | exact PEv.eqC rfl rfl rfl rfl | exact PEv.neC rfl rfl rfl rfl | exact PEv.buildA rfl rfl rfl | exact PEv.indexArr rfl rfl rfl (by decide) (by decide) rfl rfl | (apply PEv.string rfl rfl; assumption) | exact PEv.cut2 rfl rfl rfl rfl (by omega) (by omega) (by omega) (by omega))) ?_ | refine GL.store ?_ | refine GL.storeN ?_ | refine GL.boxA (fun g => ?_) | refine GL.box1 (fun g => ?_) | refine GL.alloc1 (fun g => ?_) | refine GL.allocA (fun g => ?_) | refine GL.no ?_) | ((with_reducible show G _ _ _ (Item.code (Code.cond _ _ _) :: _) _ _ _); first | refine G.condT rfl ?_ | refine G.condF rfl ?_ | refine G.condYes rfl (by omega) ?_ | refine G.condNo rfl (by omega) ?_) | (with_reducible refine G.exit rfl ?_))
      refine G.sub .nil ?_
      refine G.ret1 ok rfl ?_
      exact ⟨_, _, rfl, rfl, Sl.nil _ _⟩
    | some y =>
      obtain ⟨A2, c2⟩ := y
      rw [List.take_of_length_le (by omega)] at *
      dsimp only
      repeat (first | (with_reducible refine GL.nil ?_) | (with_reducible refine G.region ?_) | (with_reducible refine G.seq ?_) | (with_reducible refine G.skip ?_) | (with_reducible refine G.block ?_) | (with_reducible refine G.inBlock ?_) | (with_reducible refine G.label ?_) | ((with_reducible show GL _ _ _ _ (_ :: _) _ _ _ _); first | refine GL.p ?_ | refine GL.p (he := by first | (first | exact PEv.eqC rfl rfl rfl rfl | exact PEv.neC rfl rfl rfl rfl | exact PEv.buildA rfl rfl rfl | exact PEv.indexArr rfl rfl rfl (by decide) (by decide) rfl rfl | (apply PEv.string rfl rfl; assumption) | exact PEv.cut2 rfl rfl rfl rfl (by omega) (by omega) (by omega) (by omega))) ?_ | refine GL.store ?_ | refine GL.storeN ?_ | refine GL.boxA (fun g => ?_) | refine GL.box1 (fun g => ?_) | refine GL.alloc1 (fun g => ?_) | refine GL.allocA (fun g => ?_) | refine GL.no ?_) | ((with_reducible show G _ _ _ (Item.code (Code.cond _ _ _) :: _) _ _ _); first | refine G.condT rfl ?_ | refine G.condF rfl ?_ | refine G.condYes rfl (by omega) ?_ | refine G.condNo rfl (by omega) ?_) | (with_reducible refine G.exit rfl ?_))
      refine G.freezeBuf (by (repeat (first | exact Pick.head | apply Pick.tail))) fun s2 hle2 hs2 => ?_
      refine G.sub .nil ?_
      refine G.ret1 ok rfl ?_
      exact ⟨_, _, rfl, rfl, hs2⟩
end Go.Proofs.Ytgggcfhmcelioaa
