/- Fields that were written are read: the walk. No statement of the seat is proved here. -/
import Derived.Test.YtgggcfhmcelioaaN5
namespace Go.Proofs.Ytgggcfhmcelioaa
open Go.RowKit
section
variable {P : Program} {f : Fr} {s : Store} {h : List Ent} {o : Oper}
theorem PEv.remI {t t' : TypeId} {x y : Operand} {m n : Int} (ho : o.op = .binOp .rem t x y t') (hx : f.val x = some (.int .i64 m)) (hy : f.val y = some (.int .i64 n)) (hn : n ≠ 0) : PEv P f s h o (.int .i64 (m.tmod n)) :=
  PEv.binI ho hx hy fun w => by simp [binOp, Op.intDiv, hn]
theorem PEv.cut1 {t e : TypeId} {x y' : Operand} {A : Option Addr} {n c : Nat} {k' : IntKind} {j : Int} {z : Value} {sz b : Nat} [ut : UT P t (.slice e)] [it : IT P e z sz b] (ho : o.op = .slice t x none (some y') none) (hx : f.val x = some (.slice A n c)) (hy' : f.val y' = some (.int k' j))
    (h0 : 0 ≤ j) (h2 : j ≤ c) : PEv P f s h o (.slice A j.toNat c) := fun a w h3 _ => by
  have e0 : ∀ ad : Addr, ad.add 0 = ad := fun ad => by simp [Addr.add]
  have : (if c = 0 then A else A.map (·.add (0 * sz))) = A := by split <;> simp [e0]
  simp only [execOp, ho, h3.eval hx, Option.map_some, Option.map_none, h3.eval hy', Instr.sliceAt, Instr.slice, Instr.sliceBounds, run_underlying ut.out, run_bound (P := P) h0 h2, run_size (P := P) (w := w) (t := e), Sem.run_bind, Result.andThen_ok, Sem.run_pure, Nat.sub_zero]
  rw [this]
end
theorem Sl.take1 {s : Store} {A : Option Addr} {n c : Nat} {l : List UInt8} (hs : Bs s A n c l) (k : Nat) (hk : k ≤ n) : Bs s A k c (l.take k) := by
  have hlen := hs.bytes
  have hcap := hs.cap
  refine ⟨by simp; omega, by omega, hs.max, fun j u hj => hs.at_ j u ?_⟩
  rw [bcells, List.map_take, List.getElem?_take] at hj
  split at hj
  · exact hj
  · cases hj
theorem tmod_in (a : Int) {b : Int} (hb : 0 < b) : -b < a.tmod b ∧ a.tmod b < b := by
  rcases Int.le_total 0 a with h | h
  · rw [Int.tmod_eq_emod_of_nonneg h]
    exact ⟨by have := Int.emod_nonneg a (Int.ne_of_gt hb); omega, Int.emod_lt_of_pos a hb⟩
  · have h2 : a.tmod b = -((-a).tmod b) := by rw [Int.neg_tmod, Int.neg_neg]
    rw [h2, Int.tmod_eq_emod_of_nonneg (by omega)]
    have h3 := Int.emod_nonneg (-a) (Int.ne_of_gt hb)
    have h4 := Int.emod_lt_of_pos (-a) hb
    omega
theorem tmod_pos {a b : Int} (ha : 0 ≤ a) (hb : 0 < b) : 0 ≤ a.tmod b ∧ a.tmod b < b := by
  rw [Int.tmod_eq_emod_of_nonneg ha]
  exact ⟨Int.emod_nonneg a (Int.ne_of_gt hb), Int.emod_lt_of_pos a hb⟩
def bulkF : List Fld → Nat
  | [] => 0
  | r :: l => min r.txt.size 5000 + bulkF l
theorem bulkF_append (a b : List Fld) : bulkF (a ++ b) = bulkF a + bulkF b := by induction a with
  | nil => simp [bulkF]
  | cons r a ih => simp [bulkF, ih]; omega
theorem bulkF_le (a : List Fld) : bulkF a ≤ a.length * 5000 := by induction a with
  | nil => simp [bulkF]
  | cons r a ih => simp only [bulkF, List.length_cons]; omega
theorem fenc_len {x : Fld} (h : okF x) : 1 ≤ (fenc x).length ∧ (fenc x).length ≤ 1100 := by
  unfold fenc
  split
  · rename_i h0
    have := h.1 h0
    have h1 := vlen_le x.num.toNat (by omega)
    have h2 := vlen_pos x.num.toNat
    rw [venc_length]
    omega
  · split
    · rename_i h1
      have := h.2 h1
      have h2 := vlen_le x.txt.size (by omega)
      have h3 := vlen_pos x.txt.size
      rw [tenc_length]
      omega
    · simp
set_option maxHeartbeats 16000000 in
theorem back_calls (A : Option Addr) (n c : Nat) (l : List Fld) (cut : Int) (s : Store) (hf : Fs s A n c l) :
    Fn Try.prog 4 #[.slice A n c, .int .i64 cut] s [] (fun e _ h' => e = .returned (.bool true) ∧ h' = []) := by
  have hl := hf.flen
  have hcap := hf.cap
  have hmax := hf.max
  refine Fn.intro (args := [.slice A n c, .int .i64 cut]) Try.func4 rfl Try.ntmps4 (Nat.le_of_ble_eq_true rfl) (fun C ok hh => ?_)
  repeat (first | (with_reducible refine GL.nil ?_) | (with_reducible refine G.region ?_) | (with_reducible refine G.seq ?_) | (with_reducible refine G.skip ?_) | (with_reducible refine G.block ?_) | (with_reducible refine G.inBlock ?_) | (with_reducible refine G.label ?_) | ((with_reducible show GL _ _ _ _ (_ :: _) _ _ _ _); first | refine GL.p ?_ | refine GL.p (he := by first | (first | exact PEv.eqC rfl rfl rfl rfl | exact PEv.makeIface rfl rfl (by intro ms h; cases h) | exact PEv.neC rfl rfl rfl rfl | exact PEv.buildA rfl rfl rfl | exact PEv.indexArr rfl rfl rfl (by decide) (by decide) rfl rfl | (apply PEv.string rfl rfl; assumption) | (refine PEv.cutStr rfl rfl rfl rfl ?_ ?_ ?_ <;> omega)) | (first | (refine PEv.cutStrTo rfl rfl rfl ?_ ?_ <;> omega) | (refine PEv.cutStrFrom rfl rfl rfl ?_ ?_ <;> omega) | exact PEv.rem128 rfl rfl | exact PEv.quo128 rfl rfl (by omega) | exact PEv.cut2 rfl rfl rfl rfl (by omega) (by omega) (by omega) (by omega))) ?_ | refine GL.store ?_ | refine GL.storeN ?_ | refine GL.boxA (fun g => ?_) | refine GL.box1 (fun g => ?_) | refine GL.alloc1 rfl (fun g => ?_) | refine GL.allocA (fun g => ?_) | refine GL.no ?_) | ((with_reducible show G _ _ _ (Item.code (Code.cond _ _ _) :: _) _ _ _); first | refine G.condT rfl ?_ | refine G.condF rfl ?_ | refine G.condYes rfl (by omega) ?_ | refine G.condNo rfl (by omega) ?_) | (with_reducible refine G.exit rfl ?_))
  refine G.loop (fun x : Nat => [(0, .slice A n c), (1, .int .i64 cut), (5, .int .i64 (bulkF (l.take x))), (6, .int .i64 x)]) (fun _ => []) (fun x s' => s' = s ∧ x ≤ n ∧ x ≤ 61) (fun x => n - x) 0 (by ((repeat' (first | exact trivial | refine And.intro ?_ ?_)); all_goals (first | (refine congrArg some (congrArg (Value.int _) ?_); (try dsimp only); omega) | exact rfl))) .nil ⟨rfl, by omega, by omega⟩ ?_
  rintro i s' ⟨hs', hi, hj⟩ ih
  subst s'
  have hb := bulkF_le (l.take i)
  have hbl : (l.take i).length ≤ 61 := by rw [List.length_take]; omega
  by_cases hmore : i < n ∧ i ≤ 60
  · obtain ⟨hlt, h60⟩ := hmore
    obtain ⟨-, h0⟩ := fcells_at l i (by omega)
    have hstep := List.take_succ_eq_append_getElem (l := l) (i := i) (by omega)
    have hbs : bulkF (l.take (i + 1)) = bulkF (l.take i) + min (l[i]'(by omega)).txt.size 5000 := by rw [hstep, bulkF_append]; simp [bulkF]
    generalize l[i]'(by omega) = r at h0 hbs
    repeat (first | (with_reducible refine GL.nil ?_) | (with_reducible refine G.region ?_) | (with_reducible refine G.seq ?_) | (with_reducible refine G.skip ?_) | (with_reducible refine G.block ?_) | (with_reducible refine G.inBlock ?_) | (with_reducible refine G.label ?_) | ((with_reducible show GL _ _ _ _ (_ :: _) _ _ _ _); first | refine GL.p ?_ | refine GL.p (he := by first | (first | exact PEv.eqC rfl rfl rfl rfl | exact PEv.makeIface rfl rfl (by intro ms h; cases h) | exact PEv.neC rfl rfl rfl rfl | exact PEv.buildA rfl rfl rfl | exact PEv.indexArr rfl rfl rfl (by decide) (by decide) rfl rfl | (apply PEv.string rfl rfl; assumption) | (refine PEv.cutStr rfl rfl rfl rfl ?_ ?_ ?_ <;> omega)) | (first | (refine PEv.cutStrTo rfl rfl rfl ?_ ?_ <;> omega) | (refine PEv.cutStrFrom rfl rfl rfl ?_ ?_ <;> omega) | exact PEv.rem128 rfl rfl | exact PEv.quo128 rfl rfl (by omega) | exact PEv.cut2 rfl rfl rfl rfl (by omega) (by omega) (by omega) (by omega))) ?_ | refine GL.store ?_ | refine GL.storeN ?_ | refine GL.boxA (fun g => ?_) | refine GL.box1 (fun g => ?_) | refine GL.alloc1 rfl (fun g => ?_) | refine GL.allocA (fun g => ?_) | refine GL.no ?_) | ((with_reducible show G _ _ _ (Item.code (Code.cond _ _ _) :: _) _ _ _); first | refine G.condT rfl ?_ | refine G.condF rfl ?_ | refine G.condYes rfl (by omega) ?_ | refine G.condNo rfl (by omega) ?_) | (with_reducible refine G.exit rfl ?_))
    refine ih (i + 1) _ _ _ _ ⟨rfl, rfl, ?_, ?_, trivial⟩ .nil ⟨rfl, by omega, by omega⟩ (by omega)
    · refine congrArg some (congrArg (Value.int _) ?_)
      split <;> omega
    · exact rfl
  · have hend : i = n ∨ (i = 61 ∧ 61 ≤ n) := by omega
    by_cases hgr : 60 < n ∨ 4000 < bulkF (l.take i)
    · rcases Nat.lt_or_ge i n with hin | hin
      all_goals
        by_cases h60 : 60 < n
        all_goals
          first
          | (exfalso; omega)
          | repeat (first | (with_reducible refine GL.nil ?_) | (with_reducible refine G.region ?_) | (with_reducible refine G.seq ?_) | (with_reducible refine G.skip ?_) | (with_reducible refine G.block ?_) | (with_reducible refine G.inBlock ?_) | (with_reducible refine G.label ?_) | ((with_reducible show GL _ _ _ _ (_ :: _) _ _ _ _); first | refine GL.p ?_ | refine GL.p (he := by first | (first | exact PEv.eqC rfl rfl rfl rfl | exact PEv.makeIface rfl rfl (by intro ms h; cases h) | exact PEv.neC rfl rfl rfl rfl | exact PEv.buildA rfl rfl rfl | exact PEv.indexArr rfl rfl rfl (by decide) (by decide) rfl rfl | (apply PEv.string rfl rfl; assumption) | (refine PEv.cutStr rfl rfl rfl rfl ?_ ?_ ?_ <;> omega)) | (first | (refine PEv.cutStrTo rfl rfl rfl ?_ ?_ <;> omega) | (refine PEv.cutStrFrom rfl rfl rfl ?_ ?_ <;> omega) | exact PEv.rem128 rfl rfl | exact PEv.quo128 rfl rfl (by omega) | exact PEv.cut2 rfl rfl rfl rfl (by omega) (by omega) (by omega) (by omega))) ?_ | refine GL.store ?_ | refine GL.storeN ?_ | refine GL.boxA (fun g => ?_) | refine GL.box1 (fun g => ?_) | refine GL.alloc1 rfl (fun g => ?_) | refine GL.allocA (fun g => ?_) | refine GL.no ?_) | ((with_reducible show G _ _ _ (Item.code (Code.cond _ _ _) :: _) _ _ _); first | refine G.condT rfl ?_ | refine G.condF rfl ?_ | refine G.condYes rfl (by omega) ?_ | refine G.condNo rfl (by omega) ?_) | (with_reducible refine G.exit rfl ?_))
            refine GL.call rfl rfl (wakes2_calls _) .nil fun v s2 h2 hp hle2 => ?_
            obtain ⟨e1, rfl⟩ := hp
            cases e1
            repeat (first | (with_reducible refine GL.nil ?_) | (with_reducible refine G.region ?_) | (with_reducible refine G.seq ?_) | (with_reducible refine G.skip ?_) | (with_reducible refine G.block ?_) | (with_reducible refine G.inBlock ?_) | (with_reducible refine G.label ?_) | ((with_reducible show GL _ _ _ _ (_ :: _) _ _ _ _); first | refine GL.p ?_ | refine GL.p (he := by first | (first | exact PEv.eqC rfl rfl rfl rfl | exact PEv.makeIface rfl rfl (by intro ms h; cases h) | exact PEv.neC rfl rfl rfl rfl | exact PEv.buildA rfl rfl rfl | exact PEv.indexArr rfl rfl rfl (by decide) (by decide) rfl rfl | (apply PEv.string rfl rfl; assumption) | (refine PEv.cutStr rfl rfl rfl rfl ?_ ?_ ?_ <;> omega)) | (first | (refine PEv.cutStrTo rfl rfl rfl ?_ ?_ <;> omega) | (refine PEv.cutStrFrom rfl rfl rfl ?_ ?_ <;> omega) | exact PEv.rem128 rfl rfl | exact PEv.quo128 rfl rfl (by omega) | exact PEv.cut2 rfl rfl rfl rfl (by omega) (by omega) (by omega) (by omega))) ?_ | refine GL.store ?_ | refine GL.storeN ?_ | refine GL.boxA (fun g => ?_) | refine GL.box1 (fun g => ?_) | refine GL.alloc1 rfl (fun g => ?_) | refine GL.allocA (fun g => ?_) | refine GL.no ?_) | ((with_reducible show G _ _ _ (Item.code (Code.cond _ _ _) :: _) _ _ _); first | refine G.condT rfl ?_ | refine G.condF rfl ?_ | refine G.condYes rfl (by omega) ?_ | refine G.condNo rfl (by omega) ?_) | (with_reducible refine G.exit rfl ?_))
            refine G.ret1 ok rfl ?_
            exact ⟨rfl, rfl⟩
    · obtain rfl : i = n := by omega
      have hn60 : i ≤ 60 := by omega
      clear ih hb hbl hj hmore hend hi
      generalize i = n at *
      repeat (first | (with_reducible refine GL.nil ?_) | (with_reducible refine G.region ?_) | (with_reducible refine G.seq ?_) | (with_reducible refine G.skip ?_) | (with_reducible refine G.block ?_) | (with_reducible refine G.inBlock ?_) | (with_reducible refine G.label ?_) | ((with_reducible show GL _ _ _ _ (_ :: _) _ _ _ _); first | refine GL.p ?_ | refine GL.p (he := by first | (first | exact PEv.eqC rfl rfl rfl rfl | exact PEv.makeIface rfl rfl (by intro ms h; cases h) | exact PEv.neC rfl rfl rfl rfl | exact PEv.buildA rfl rfl rfl | exact PEv.indexArr rfl rfl rfl (by decide) (by decide) rfl rfl | (apply PEv.string rfl rfl; assumption) | (refine PEv.cutStr rfl rfl rfl rfl ?_ ?_ ?_ <;> omega)) | (first | (refine PEv.cutStrTo rfl rfl rfl ?_ ?_ <;> omega) | (refine PEv.cutStrFrom rfl rfl rfl ?_ ?_ <;> omega) | exact PEv.rem128 rfl rfl | exact PEv.quo128 rfl rfl (by omega) | exact PEv.cut2 rfl rfl rfl rfl (by omega) (by omega) (by omega) (by omega))) ?_ | refine GL.store ?_ | refine GL.storeN ?_ | refine GL.boxA (fun g => ?_) | refine GL.box1 (fun g => ?_) | refine GL.alloc1 rfl (fun g => ?_) | refine GL.allocA (fun g => ?_) | refine GL.no ?_) | ((with_reducible show G _ _ _ (Item.code (Code.cond _ _ _) :: _) _ _ _); first | refine G.condT rfl ?_ | refine G.condF rfl ?_ | refine G.condYes rfl (by omega) ?_ | refine G.condNo rfl (by omega) ?_) | (with_reducible refine G.exit rfl ?_))
      refine G.loop (fun x : Nat × Nat × Option Addr × Nat => [(0, .slice A n c), (1, .int .i64 cut), (7, .slice x.2.2.1 x.2.1 x.2.2.2), (8, .int .i64 x.1)]) (fun _ => []) (fun x s' => s.le s' ∧ x.1 ≤ n ∧ x.2.1 ≤ x.1 * 1100 ∧ Bs s' x.2.2.1 x.2.1 x.2.2.2 ((l.take x.1).flatMap fenc) ∧ ∀ y ∈ l.take x.1, okF y) (fun x => n - x.1) (0, 0, none, 0) (by ((repeat' (first | exact trivial | refine And.intro ?_ ?_)); all_goals (first | (refine congrArg some (congrArg (Value.int _) ?_); (try dsimp only); omega) | exact rfl))) .nil ⟨Store.le.refl _, Nat.zero_le _, Nat.zero_le _, Sl.nil s 1, by simp⟩ ?_
      rintro ⟨i, M, A1, c1⟩ s1 ⟨hle, hi, hM, hb, hall⟩ ih
      dsimp only at hi hM hb hall ⊢
      have hf1 := hf.le hle
      by_cases hlt : i < n
      · obtain ⟨hE, -⟩ := fcells_at l i (by omega)
        have hstep := List.take_succ_eq_append_getElem (l := l) (i := i) (by omega)
        generalize l[i]'(by omega) = x at hE hstep
        by_cases hd0 : x.do_ = 0
        · have hen : fenc x = venc x.num.toNat := if_pos hd0
          by_cases hN0 : x.num < 0
          · repeat (first | (with_reducible refine GL.nil ?_) | (with_reducible refine G.region ?_) | (with_reducible refine G.seq ?_) | (with_reducible refine G.skip ?_) | (with_reducible refine G.block ?_) | (with_reducible refine G.inBlock ?_) | (with_reducible refine G.label ?_) | ((with_reducible show GL _ _ _ _ (_ :: _) _ _ _ _); first | refine GL.p ?_ | refine GL.p (he := by first | (first | exact PEv.eqC rfl rfl rfl rfl | exact PEv.makeIface rfl rfl (by intro ms h; cases h) | exact PEv.neC rfl rfl rfl rfl | exact PEv.buildA rfl rfl rfl | exact PEv.indexArr rfl rfl rfl (by decide) (by decide) rfl rfl | (apply PEv.string rfl rfl; assumption) | (refine PEv.cutStr rfl rfl rfl rfl ?_ ?_ ?_ <;> omega)) | (first | (refine PEv.cutStrTo rfl rfl rfl ?_ ?_ <;> omega) | (refine PEv.cutStrFrom rfl rfl rfl ?_ ?_ <;> omega) | exact PEv.rem128 rfl rfl | exact PEv.quo128 rfl rfl (by omega) | exact PEv.cut2 rfl rfl rfl rfl (by omega) (by omega) (by omega) (by omega))) ?_ | refine GL.store ?_ | refine GL.storeN ?_ | refine GL.boxA (fun g => ?_) | refine GL.box1 (fun g => ?_) | refine GL.alloc1 rfl (fun g => ?_) | refine GL.allocA (fun g => ?_) | refine GL.no ?_) | ((with_reducible show G _ _ _ (Item.code (Code.cond _ _ _) :: _) _ _ _); first | refine G.condT rfl ?_ | refine G.condF rfl ?_ | refine G.condYes rfl (by omega) ?_ | refine G.condNo rfl (by omega) ?_) | (with_reducible refine G.exit rfl ?_))
            refine GL.call rfl rfl (wakes2_calls _) .nil fun v s2 h2 hp hle2 => ?_
            obtain ⟨e1, rfl⟩ := hp
            cases e1
            repeat (first | (with_reducible refine GL.nil ?_) | (with_reducible refine G.region ?_) | (with_reducible refine G.seq ?_) | (with_reducible refine G.skip ?_) | (with_reducible refine G.block ?_) | (with_reducible refine G.inBlock ?_) | (with_reducible refine G.label ?_) | ((with_reducible show GL _ _ _ _ (_ :: _) _ _ _ _); first | refine GL.p ?_ | refine GL.p (he := by first | (first | exact PEv.eqC rfl rfl rfl rfl | exact PEv.makeIface rfl rfl (by intro ms h; cases h) | exact PEv.neC rfl rfl rfl rfl | exact PEv.buildA rfl rfl rfl | exact PEv.indexArr rfl rfl rfl (by decide) (by decide) rfl rfl | (apply PEv.string rfl rfl; assumption) | (refine PEv.cutStr rfl rfl rfl rfl ?_ ?_ ?_ <;> omega)) | (first | (refine PEv.cutStrTo rfl rfl rfl ?_ ?_ <;> omega) | (refine PEv.cutStrFrom rfl rfl rfl ?_ ?_ <;> omega) | exact PEv.rem128 rfl rfl | exact PEv.quo128 rfl rfl (by omega) | exact PEv.cut2 rfl rfl rfl rfl (by omega) (by omega) (by omega) (by omega))) ?_ | refine GL.store ?_ | refine GL.storeN ?_ | refine GL.boxA (fun g => ?_) | refine GL.box1 (fun g => ?_) | refine GL.alloc1 rfl (fun g => ?_) | refine GL.allocA (fun g => ?_) | refine GL.no ?_) | ((with_reducible show G _ _ _ (Item.code (Code.cond _ _ _) :: _) _ _ _); first | refine G.condT rfl ?_ | refine G.condF rfl ?_ | refine G.condYes rfl (by omega) ?_ | refine G.condNo rfl (by omega) ?_) | (with_reducible refine G.exit rfl ?_))
            refine G.sub .nil ?_
            refine G.ret1 ok rfl ?_
            exact ⟨rfl, rfl⟩
          · by_cases hN1 : 1099511627776 < x.num
            · repeat (first | (with_reducible refine GL.nil ?_) | (with_reducible refine G.region ?_) | (with_reducible refine G.seq ?_) | (with_reducible refine G.skip ?_) | (with_reducible refine G.block ?_) | (with_reducible refine G.inBlock ?_) | (with_reducible refine G.label ?_) | ((with_reducible show GL _ _ _ _ (_ :: _) _ _ _ _); first | refine GL.p ?_ | refine GL.p (he := by first | (first | exact PEv.eqC rfl rfl rfl rfl | exact PEv.makeIface rfl rfl (by intro ms h; cases h) | exact PEv.neC rfl rfl rfl rfl | exact PEv.buildA rfl rfl rfl | exact PEv.indexArr rfl rfl rfl (by decide) (by decide) rfl rfl | (apply PEv.string rfl rfl; assumption) | (refine PEv.cutStr rfl rfl rfl rfl ?_ ?_ ?_ <;> omega)) | (first | (refine PEv.cutStrTo rfl rfl rfl ?_ ?_ <;> omega) | (refine PEv.cutStrFrom rfl rfl rfl ?_ ?_ <;> omega) | exact PEv.rem128 rfl rfl | exact PEv.quo128 rfl rfl (by omega) | exact PEv.cut2 rfl rfl rfl rfl (by omega) (by omega) (by omega) (by omega))) ?_ | refine GL.store ?_ | refine GL.storeN ?_ | refine GL.boxA (fun g => ?_) | refine GL.box1 (fun g => ?_) | refine GL.alloc1 rfl (fun g => ?_) | refine GL.allocA (fun g => ?_) | refine GL.no ?_) | ((with_reducible show G _ _ _ (Item.code (Code.cond _ _ _) :: _) _ _ _); first | refine G.condT rfl ?_ | refine G.condF rfl ?_ | refine G.condYes rfl (by omega) ?_ | refine G.condNo rfl (by omega) ?_) | (with_reducible refine G.exit rfl ?_))
              refine GL.call rfl rfl (wakes2_calls _) .nil fun v s2 h2 hp hle2 => ?_
              obtain ⟨e1, rfl⟩ := hp
              cases e1
              repeat (first | (with_reducible refine GL.nil ?_) | (with_reducible refine G.region ?_) | (with_reducible refine G.seq ?_) | (with_reducible refine G.skip ?_) | (with_reducible refine G.block ?_) | (with_reducible refine G.inBlock ?_) | (with_reducible refine G.label ?_) | ((with_reducible show GL _ _ _ _ (_ :: _) _ _ _ _); first | refine GL.p ?_ | refine GL.p (he := by first | (first | exact PEv.eqC rfl rfl rfl rfl | exact PEv.makeIface rfl rfl (by intro ms h; cases h) | exact PEv.neC rfl rfl rfl rfl | exact PEv.buildA rfl rfl rfl | exact PEv.indexArr rfl rfl rfl (by decide) (by decide) rfl rfl | (apply PEv.string rfl rfl; assumption) | (refine PEv.cutStr rfl rfl rfl rfl ?_ ?_ ?_ <;> omega)) | (first | (refine PEv.cutStrTo rfl rfl rfl ?_ ?_ <;> omega) | (refine PEv.cutStrFrom rfl rfl rfl ?_ ?_ <;> omega) | exact PEv.rem128 rfl rfl | exact PEv.quo128 rfl rfl (by omega) | exact PEv.cut2 rfl rfl rfl rfl (by omega) (by omega) (by omega) (by omega))) ?_ | refine GL.store ?_ | refine GL.storeN ?_ | refine GL.boxA (fun g => ?_) | refine GL.box1 (fun g => ?_) | refine GL.alloc1 rfl (fun g => ?_) | refine GL.allocA (fun g => ?_) | refine GL.no ?_) | ((with_reducible show G _ _ _ (Item.code (Code.cond _ _ _) :: _) _ _ _); first | refine G.condT rfl ?_ | refine G.condF rfl ?_ | refine G.condYes rfl (by omega) ?_ | refine G.condNo rfl (by omega) ?_) | (with_reducible refine G.exit rfl ?_))
              refine G.sub .nil ?_
              refine G.ret1 ok rfl ?_
              exact ⟨rfl, rfl⟩
            · have hokx : okF x := ⟨fun _ => by omega, fun h => by omega⟩
              obtain ⟨N, hN⟩ := Int.eq_ofNat_of_zero_le (show 0 ≤ x.num by omega)
              have hl6 := vlen_le N (by omega)
              rw [hN, Int.toNat_natCast] at hen
              simp only [hN] at hE
              repeat (first | (with_reducible refine GL.nil ?_) | (with_reducible refine G.region ?_) | (with_reducible refine G.seq ?_) | (with_reducible refine G.skip ?_) | (with_reducible refine G.block ?_) | (with_reducible refine G.inBlock ?_) | (with_reducible refine G.label ?_) | ((with_reducible show GL _ _ _ _ (_ :: _) _ _ _ _); first | refine GL.p ?_ | refine GL.p (he := by first | (first | exact PEv.eqC rfl rfl rfl rfl | exact PEv.makeIface rfl rfl (by intro ms h; cases h) | exact PEv.neC rfl rfl rfl rfl | exact PEv.buildA rfl rfl rfl | exact PEv.indexArr rfl rfl rfl (by decide) (by decide) rfl rfl | (apply PEv.string rfl rfl; assumption) | (refine PEv.cutStr rfl rfl rfl rfl ?_ ?_ ?_ <;> omega)) | (first | (refine PEv.cutStrTo rfl rfl rfl ?_ ?_ <;> omega) | (refine PEv.cutStrFrom rfl rfl rfl ?_ ?_ <;> omega) | exact PEv.rem128 rfl rfl | exact PEv.quo128 rfl rfl (by omega) | exact PEv.cut2 rfl rfl rfl rfl (by omega) (by omega) (by omega) (by omega))) ?_ | refine GL.store ?_ | refine GL.storeN ?_ | refine GL.boxA (fun g => ?_) | refine GL.box1 (fun g => ?_) | refine GL.alloc1 rfl (fun g => ?_) | refine GL.allocA (fun g => ?_) | refine GL.no ?_) | ((with_reducible show G _ _ _ (Item.code (Code.cond _ _ _) :: _) _ _ _); first | refine G.condT rfl ?_ | refine G.condF rfl ?_ | refine G.condYes rfl (by omega) ?_ | refine G.condNo rfl (by omega) ?_) | (with_reducible refine G.exit rfl ?_))
              refine GL.call rfl rfl (number_fr A1 M c1 _ N _ hb (by omega) (by omega)) .nil fun v s2 h1 hp hle1 => ?_
              obtain ⟨A2, c2, e1, rfl, hs1⟩ := hp
              cases e1
              rw [List.nil_append]
              repeat (first | (with_reducible refine GL.nil ?_) | (with_reducible refine G.region ?_) | (with_reducible refine G.seq ?_) | (with_reducible refine G.skip ?_) | (with_reducible refine G.block ?_) | (with_reducible refine G.inBlock ?_) | (with_reducible refine G.label ?_) | ((with_reducible show GL _ _ _ _ (_ :: _) _ _ _ _); first | refine GL.p ?_ | refine GL.p (he := by first | (first | exact PEv.eqC rfl rfl rfl rfl | exact PEv.makeIface rfl rfl (by intro ms h; cases h) | exact PEv.neC rfl rfl rfl rfl | exact PEv.buildA rfl rfl rfl | exact PEv.indexArr rfl rfl rfl (by decide) (by decide) rfl rfl | (apply PEv.string rfl rfl; assumption) | (refine PEv.cutStr rfl rfl rfl rfl ?_ ?_ ?_ <;> omega)) | (first | (refine PEv.cutStrTo rfl rfl rfl ?_ ?_ <;> omega) | (refine PEv.cutStrFrom rfl rfl rfl ?_ ?_ <;> omega) | exact PEv.rem128 rfl rfl | exact PEv.quo128 rfl rfl (by omega) | exact PEv.cut2 rfl rfl rfl rfl (by omega) (by omega) (by omega) (by omega))) ?_ | refine GL.store ?_ | refine GL.storeN ?_ | refine GL.boxA (fun g => ?_) | refine GL.box1 (fun g => ?_) | refine GL.alloc1 rfl (fun g => ?_) | refine GL.allocA (fun g => ?_) | refine GL.no ?_) | ((with_reducible show G _ _ _ (Item.code (Code.cond _ _ _) :: _) _ _ _); first | refine G.condT rfl ?_ | refine G.condF rfl ?_ | refine G.condYes rfl (by omega) ?_ | refine G.condNo rfl (by omega) ?_) | (with_reducible refine G.exit rfl ?_))
              refine ih (i + 1, _, _, _) _ _ _ _ (by ((repeat' (first | exact trivial | refine And.intro ?_ ?_)); all_goals (first | (refine congrArg some (congrArg (Value.int _) ?_); (try dsimp only); omega) | exact rfl))) .nil ⟨hle.trans hle1, hlt, ?_, ?_, ?_⟩ (by dsimp only; omega)
              · dsimp only
                omega
              · dsimp only
                rw [hstep, List.flatMap_append, List.flatMap_cons, List.flatMap_nil, List.append_nil, hen]
                exact hs1
              · dsimp only
                rw [hstep]
                intro y hy
                rcases List.mem_append.1 hy with hy | hy
                · exact hall y hy
                · rw [List.mem_singleton] at hy
                  subst hy
                  exact hokx
        · by_cases hd1 : x.do_ = 1
          · have hen : fenc x = tenc x.txt := by rw [fenc, if_neg hd0, if_pos hd1]
            by_cases hT : 1024 < x.txt.size
            · repeat (first | (with_reducible refine GL.nil ?_) | (with_reducible refine G.region ?_) | (with_reducible refine G.seq ?_) | (with_reducible refine G.skip ?_) | (with_reducible refine G.block ?_) | (with_reducible refine G.inBlock ?_) | (with_reducible refine G.label ?_) | ((with_reducible show GL _ _ _ _ (_ :: _) _ _ _ _); first | refine GL.p ?_ | refine GL.p (he := by first | (first | exact PEv.eqC rfl rfl rfl rfl | exact PEv.makeIface rfl rfl (by intro ms h; cases h) | exact PEv.neC rfl rfl rfl rfl | exact PEv.buildA rfl rfl rfl | exact PEv.indexArr rfl rfl rfl (by decide) (by decide) rfl rfl | (apply PEv.string rfl rfl; assumption) | (refine PEv.cutStr rfl rfl rfl rfl ?_ ?_ ?_ <;> omega)) | (first | (refine PEv.cutStrTo rfl rfl rfl ?_ ?_ <;> omega) | (refine PEv.cutStrFrom rfl rfl rfl ?_ ?_ <;> omega) | exact PEv.rem128 rfl rfl | exact PEv.quo128 rfl rfl (by omega) | exact PEv.cut2 rfl rfl rfl rfl (by omega) (by omega) (by omega) (by omega))) ?_ | refine GL.store ?_ | refine GL.storeN ?_ | refine GL.boxA (fun g => ?_) | refine GL.box1 (fun g => ?_) | refine GL.alloc1 rfl (fun g => ?_) | refine GL.allocA (fun g => ?_) | refine GL.no ?_) | ((with_reducible show G _ _ _ (Item.code (Code.cond _ _ _) :: _) _ _ _); first | refine G.condT rfl ?_ | refine G.condF rfl ?_ | refine G.condYes rfl (by omega) ?_ | refine G.condNo rfl (by omega) ?_) | (with_reducible refine G.exit rfl ?_))
              refine GL.call rfl rfl (wakes2_calls _) .nil fun v s2 h2 hp hle2 => ?_
              obtain ⟨e1, rfl⟩ := hp
              cases e1
              repeat (first | (with_reducible refine GL.nil ?_) | (with_reducible refine G.region ?_) | (with_reducible refine G.seq ?_) | (with_reducible refine G.skip ?_) | (with_reducible refine G.block ?_) | (with_reducible refine G.inBlock ?_) | (with_reducible refine G.label ?_) | ((with_reducible show GL _ _ _ _ (_ :: _) _ _ _ _); first | refine GL.p ?_ | refine GL.p (he := by first | (first | exact PEv.eqC rfl rfl rfl rfl | exact PEv.makeIface rfl rfl (by intro ms h; cases h) | exact PEv.neC rfl rfl rfl rfl | exact PEv.buildA rfl rfl rfl | exact PEv.indexArr rfl rfl rfl (by decide) (by decide) rfl rfl | (apply PEv.string rfl rfl; assumption) | (refine PEv.cutStr rfl rfl rfl rfl ?_ ?_ ?_ <;> omega)) | (first | (refine PEv.cutStrTo rfl rfl rfl ?_ ?_ <;> omega) | (refine PEv.cutStrFrom rfl rfl rfl ?_ ?_ <;> omega) | exact PEv.rem128 rfl rfl | exact PEv.quo128 rfl rfl (by omega) | exact PEv.cut2 rfl rfl rfl rfl (by omega) (by omega) (by omega) (by omega))) ?_ | refine GL.store ?_ | refine GL.storeN ?_ | refine GL.boxA (fun g => ?_) | refine GL.box1 (fun g => ?_) | refine GL.alloc1 rfl (fun g => ?_) | refine GL.allocA (fun g => ?_) | refine GL.no ?_) | ((with_reducible show G _ _ _ (Item.code (Code.cond _ _ _) :: _) _ _ _); first | refine G.condT rfl ?_ | refine G.condF rfl ?_ | refine G.condYes rfl (by omega) ?_ | refine G.condNo rfl (by omega) ?_) | (with_reducible refine G.exit rfl ?_))
              refine G.sub .nil ?_
              refine G.ret1 ok rfl ?_
              exact ⟨rfl, rfl⟩
            · have hokx : okF x := ⟨fun h => by omega, fun _ => by omega⟩
              have hl6 := vlen_le x.txt.size (by omega)
              repeat (first | (with_reducible refine GL.nil ?_) | (with_reducible refine G.region ?_) | (with_reducible refine G.seq ?_) | (with_reducible refine G.skip ?_) | (with_reducible refine G.block ?_) | (with_reducible refine G.inBlock ?_) | (with_reducible refine G.label ?_) | ((with_reducible show GL _ _ _ _ (_ :: _) _ _ _ _); first | refine GL.p ?_ | refine GL.p (he := by first | (first | exact PEv.eqC rfl rfl rfl rfl | exact PEv.makeIface rfl rfl (by intro ms h; cases h) | exact PEv.neC rfl rfl rfl rfl | exact PEv.buildA rfl rfl rfl | exact PEv.indexArr rfl rfl rfl (by decide) (by decide) rfl rfl | (apply PEv.string rfl rfl; assumption) | (refine PEv.cutStr rfl rfl rfl rfl ?_ ?_ ?_ <;> omega)) | (first | (refine PEv.cutStrTo rfl rfl rfl ?_ ?_ <;> omega) | (refine PEv.cutStrFrom rfl rfl rfl ?_ ?_ <;> omega) | exact PEv.rem128 rfl rfl | exact PEv.quo128 rfl rfl (by omega) | exact PEv.cut2 rfl rfl rfl rfl (by omega) (by omega) (by omega) (by omega))) ?_ | refine GL.store ?_ | refine GL.storeN ?_ | refine GL.boxA (fun g => ?_) | refine GL.box1 (fun g => ?_) | refine GL.alloc1 rfl (fun g => ?_) | refine GL.allocA (fun g => ?_) | refine GL.no ?_) | ((with_reducible show G _ _ _ (Item.code (Code.cond _ _ _) :: _) _ _ _); first | refine G.condT rfl ?_ | refine G.condF rfl ?_ | refine G.condYes rfl (by omega) ?_ | refine G.condNo rfl (by omega) ?_) | (with_reducible refine G.exit rfl ?_))
              refine GL.call rfl rfl (text_fr A1 M c1 _ x.txt _ hb (by omega) (by omega)) .nil fun v s2 h1 hp hle1 => ?_
              obtain ⟨A2, c2, e1, rfl, hs1⟩ := hp
              cases e1
              rw [List.nil_append]
              repeat (first | (with_reducible refine GL.nil ?_) | (with_reducible refine G.region ?_) | (with_reducible refine G.seq ?_) | (with_reducible refine G.skip ?_) | (with_reducible refine G.block ?_) | (with_reducible refine G.inBlock ?_) | (with_reducible refine G.label ?_) | ((with_reducible show GL _ _ _ _ (_ :: _) _ _ _ _); first | refine GL.p ?_ | refine GL.p (he := by first | (first | exact PEv.eqC rfl rfl rfl rfl | exact PEv.makeIface rfl rfl (by intro ms h; cases h) | exact PEv.neC rfl rfl rfl rfl | exact PEv.buildA rfl rfl rfl | exact PEv.indexArr rfl rfl rfl (by decide) (by decide) rfl rfl | (apply PEv.string rfl rfl; assumption) | (refine PEv.cutStr rfl rfl rfl rfl ?_ ?_ ?_ <;> omega)) | (first | (refine PEv.cutStrTo rfl rfl rfl ?_ ?_ <;> omega) | (refine PEv.cutStrFrom rfl rfl rfl ?_ ?_ <;> omega) | exact PEv.rem128 rfl rfl | exact PEv.quo128 rfl rfl (by omega) | exact PEv.cut2 rfl rfl rfl rfl (by omega) (by omega) (by omega) (by omega))) ?_ | refine GL.store ?_ | refine GL.storeN ?_ | refine GL.boxA (fun g => ?_) | refine GL.box1 (fun g => ?_) | refine GL.alloc1 rfl (fun g => ?_) | refine GL.allocA (fun g => ?_) | refine GL.no ?_) | ((with_reducible show G _ _ _ (Item.code (Code.cond _ _ _) :: _) _ _ _); first | refine G.condT rfl ?_ | refine G.condF rfl ?_ | refine G.condYes rfl (by omega) ?_ | refine G.condNo rfl (by omega) ?_) | (with_reducible refine G.exit rfl ?_))
              refine ih (i + 1, _, _, _) _ _ _ _ (by ((repeat' (first | exact trivial | refine And.intro ?_ ?_)); all_goals (first | (refine congrArg some (congrArg (Value.int _) ?_); (try dsimp only); omega) | exact rfl))) .nil ⟨hle.trans hle1, hlt, ?_, ?_, ?_⟩ (by dsimp only; omega)
              · dsimp only
                omega
              · dsimp only
                rw [hstep, List.flatMap_append, List.flatMap_cons, List.flatMap_nil, List.append_nil, hen]
                exact hs1
              · dsimp only
                rw [hstep]
                intro y hy
                rcases List.mem_append.1 hy with hy | hy
                · exact hall y hy
                · rw [List.mem_singleton] at hy
                  subst hy
                  exact hokx
          · have hen : fenc x = [if x.num = 1 then 1 else 0] := by rw [fenc, if_neg hd0, if_neg hd1]
            have hokx : okF x := ⟨fun h => absurd h hd0, fun h => absurd h hd1⟩
            by_cases hx0 : x.num = 1
            · rw [if_pos hx0] at hen
              repeat (first | (with_reducible refine GL.nil ?_) | (with_reducible refine G.region ?_) | (with_reducible refine G.seq ?_) | (with_reducible refine G.skip ?_) | (with_reducible refine G.block ?_) | (with_reducible refine G.inBlock ?_) | (with_reducible refine G.label ?_) | ((with_reducible show GL _ _ _ _ (_ :: _) _ _ _ _); first | refine GL.p ?_ | refine GL.p (he := by first | (first | exact PEv.eqC rfl rfl rfl rfl | exact PEv.makeIface rfl rfl (by intro ms h; cases h) | exact PEv.neC rfl rfl rfl rfl | exact PEv.buildA rfl rfl rfl | exact PEv.indexArr rfl rfl rfl (by decide) (by decide) rfl rfl | (apply PEv.string rfl rfl; assumption) | (refine PEv.cutStr rfl rfl rfl rfl ?_ ?_ ?_ <;> omega)) | (first | (refine PEv.cutStrTo rfl rfl rfl ?_ ?_ <;> omega) | (refine PEv.cutStrFrom rfl rfl rfl ?_ ?_ <;> omega) | exact PEv.rem128 rfl rfl | exact PEv.quo128 rfl rfl (by omega) | exact PEv.cut2 rfl rfl rfl rfl (by omega) (by omega) (by omega) (by omega))) ?_ | refine GL.store ?_ | refine GL.storeN ?_ | refine GL.boxA (fun g => ?_) | refine GL.box1 (fun g => ?_) | refine GL.alloc1 rfl (fun g => ?_) | refine GL.allocA (fun g => ?_) | refine GL.no ?_) | ((with_reducible show G _ _ _ (Item.code (Code.cond _ _ _) :: _) _ _ _); first | refine G.condT rfl ?_ | refine G.condF rfl ?_ | refine G.condYes rfl (by omega) ?_ | refine G.condNo rfl (by omega) ?_) | (with_reducible refine G.exit rfl ?_))
              refine GL.call rfl rfl (flag_fr A1 M c1 _ true _ hb (by omega)) .nil fun v s2 h1 hp hle1 => ?_
              obtain ⟨A2, c2, e1, rfl, hs1⟩ := hp
              cases e1
              rw [List.nil_append]
              repeat (first | (with_reducible refine GL.nil ?_) | (with_reducible refine G.region ?_) | (with_reducible refine G.seq ?_) | (with_reducible refine G.skip ?_) | (with_reducible refine G.block ?_) | (with_reducible refine G.inBlock ?_) | (with_reducible refine G.label ?_) | ((with_reducible show GL _ _ _ _ (_ :: _) _ _ _ _); first | refine GL.p ?_ | refine GL.p (he := by first | (first | exact PEv.eqC rfl rfl rfl rfl | exact PEv.makeIface rfl rfl (by intro ms h; cases h) | exact PEv.neC rfl rfl rfl rfl | exact PEv.buildA rfl rfl rfl | exact PEv.indexArr rfl rfl rfl (by decide) (by decide) rfl rfl | (apply PEv.string rfl rfl; assumption) | (refine PEv.cutStr rfl rfl rfl rfl ?_ ?_ ?_ <;> omega)) | (first | (refine PEv.cutStrTo rfl rfl rfl ?_ ?_ <;> omega) | (refine PEv.cutStrFrom rfl rfl rfl ?_ ?_ <;> omega) | exact PEv.rem128 rfl rfl | exact PEv.quo128 rfl rfl (by omega) | exact PEv.cut2 rfl rfl rfl rfl (by omega) (by omega) (by omega) (by omega))) ?_ | refine GL.store ?_ | refine GL.storeN ?_ | refine GL.boxA (fun g => ?_) | refine GL.box1 (fun g => ?_) | refine GL.alloc1 rfl (fun g => ?_) | refine GL.allocA (fun g => ?_) | refine GL.no ?_) | ((with_reducible show G _ _ _ (Item.code (Code.cond _ _ _) :: _) _ _ _); first | refine G.condT rfl ?_ | refine G.condF rfl ?_ | refine G.condYes rfl (by omega) ?_ | refine G.condNo rfl (by omega) ?_) | (with_reducible refine G.exit rfl ?_))
              refine ih (i + 1, _, _, _) _ _ _ _ (by ((repeat' (first | exact trivial | refine And.intro ?_ ?_)); all_goals (first | (refine congrArg some (congrArg (Value.int _) ?_); (try dsimp only); omega) | exact rfl))) .nil ⟨hle.trans hle1, hlt, ?_, ?_, ?_⟩ (by dsimp only; omega)
              · dsimp only
                omega
              · dsimp only
                rw [hstep, List.flatMap_append, List.flatMap_cons, List.flatMap_nil, List.append_nil, hen]
                exact hs1
              · dsimp only
                rw [hstep]
                intro y hy
                rcases List.mem_append.1 hy with hy | hy
                · exact hall y hy
                · rw [List.mem_singleton] at hy
                  subst hy
                  exact hokx
            · rw [if_neg hx0] at hen
              repeat (first | (with_reducible refine GL.nil ?_) | (with_reducible refine G.region ?_) | (with_reducible refine G.seq ?_) | (with_reducible refine G.skip ?_) | (with_reducible refine G.block ?_) | (with_reducible refine G.inBlock ?_) | (with_reducible refine G.label ?_) | ((with_reducible show GL _ _ _ _ (_ :: _) _ _ _ _); first | refine GL.p ?_ | refine GL.p (he := by first | (first | exact PEv.eqC rfl rfl rfl rfl | exact PEv.makeIface rfl rfl (by intro ms h; cases h) | exact PEv.neC rfl rfl rfl rfl | exact PEv.buildA rfl rfl rfl | exact PEv.indexArr rfl rfl rfl (by decide) (by decide) rfl rfl | (apply PEv.string rfl rfl; assumption) | (refine PEv.cutStr rfl rfl rfl rfl ?_ ?_ ?_ <;> omega)) | (first | (refine PEv.cutStrTo rfl rfl rfl ?_ ?_ <;> omega) | (refine PEv.cutStrFrom rfl rfl rfl ?_ ?_ <;> omega) | exact PEv.rem128 rfl rfl | exact PEv.quo128 rfl rfl (by omega) | exact PEv.cut2 rfl rfl rfl rfl (by omega) (by omega) (by omega) (by omega))) ?_ | refine GL.store ?_ | refine GL.storeN ?_ | refine GL.boxA (fun g => ?_) | refine GL.box1 (fun g => ?_) | refine GL.alloc1 rfl (fun g => ?_) | refine GL.allocA (fun g => ?_) | refine GL.no ?_) | ((with_reducible show G _ _ _ (Item.code (Code.cond _ _ _) :: _) _ _ _); first | refine G.condT rfl ?_ | refine G.condF rfl ?_ | refine G.condYes rfl (by omega) ?_ | refine G.condNo rfl (by omega) ?_) | (with_reducible refine G.exit rfl ?_))
              refine GL.call rfl rfl (flag_fr A1 M c1 _ false _ hb (by omega)) .nil fun v s2 h1 hp hle1 => ?_
              obtain ⟨A2, c2, e1, rfl, hs1⟩ := hp
              cases e1
              rw [List.nil_append]
              repeat (first | (with_reducible refine GL.nil ?_) | (with_reducible refine G.region ?_) | (with_reducible refine G.seq ?_) | (with_reducible refine G.skip ?_) | (with_reducible refine G.block ?_) | (with_reducible refine G.inBlock ?_) | (with_reducible refine G.label ?_) | ((with_reducible show GL _ _ _ _ (_ :: _) _ _ _ _); first | refine GL.p ?_ | refine GL.p (he := by first | (first | exact PEv.eqC rfl rfl rfl rfl | exact PEv.makeIface rfl rfl (by intro ms h; cases h) | exact PEv.neC rfl rfl rfl rfl | exact PEv.buildA rfl rfl rfl | exact PEv.indexArr rfl rfl rfl (by decide) (by decide) rfl rfl | (apply PEv.string rfl rfl; assumption) | (refine PEv.cutStr rfl rfl rfl rfl ?_ ?_ ?_ <;> omega)) | (first | (refine PEv.cutStrTo rfl rfl rfl ?_ ?_ <;> omega) | (refine PEv.cutStrFrom rfl rfl rfl ?_ ?_ <;> omega) | exact PEv.rem128 rfl rfl | exact PEv.quo128 rfl rfl (by omega) | exact PEv.cut2 rfl rfl rfl rfl (by omega) (by omega) (by omega) (by omega))) ?_ | refine GL.store ?_ | refine GL.storeN ?_ | refine GL.boxA (fun g => ?_) | refine GL.box1 (fun g => ?_) | refine GL.alloc1 rfl (fun g => ?_) | refine GL.allocA (fun g => ?_) | refine GL.no ?_) | ((with_reducible show G _ _ _ (Item.code (Code.cond _ _ _) :: _) _ _ _); first | refine G.condT rfl ?_ | refine G.condF rfl ?_ | refine G.condYes rfl (by omega) ?_ | refine G.condNo rfl (by omega) ?_) | (with_reducible refine G.exit rfl ?_))
              refine ih (i + 1, _, _, _) _ _ _ _ (by ((repeat' (first | exact trivial | refine And.intro ?_ ?_)); all_goals (first | (refine congrArg some (congrArg (Value.int _) ?_); (try dsimp only); omega) | exact rfl))) .nil ⟨hle.trans hle1, hlt, ?_, ?_, ?_⟩ (by dsimp only; omega)
              · dsimp only
                omega
              · dsimp only
                rw [hstep, List.flatMap_append, List.flatMap_cons, List.flatMap_nil, List.append_nil, hen]
                exact hs1
              · dsimp only
                rw [hstep]
                intro y hy
                rcases List.mem_append.1 hy with hy | hy
                · exact hall y hy
                · rw [List.mem_singleton] at hy
                  subst hy
                  exact hokx
      · obtain rfl : i = n := by omega
        clear ih
        rw [List.take_of_length_le (by omega)] at hb hall
        have hlen := hb.bytes
        repeat (first | (with_reducible refine GL.nil ?_) | (with_reducible refine G.region ?_) | (with_reducible refine G.seq ?_) | (with_reducible refine G.skip ?_) | (with_reducible refine G.block ?_) | (with_reducible refine G.inBlock ?_) | (with_reducible refine G.label ?_) | ((with_reducible show GL _ _ _ _ (_ :: _) _ _ _ _); first | refine GL.p ?_ | refine GL.p (he := by first | (first | exact PEv.eqC rfl rfl rfl rfl | exact PEv.makeIface rfl rfl (by intro ms h; cases h) | exact PEv.neC rfl rfl rfl rfl | exact PEv.buildA rfl rfl rfl | exact PEv.indexArr rfl rfl rfl (by decide) (by decide) rfl rfl | (apply PEv.string rfl rfl; assumption) | (refine PEv.cutStr rfl rfl rfl rfl ?_ ?_ ?_ <;> omega)) | (first | (refine PEv.cutStrTo rfl rfl rfl ?_ ?_ <;> omega) | (refine PEv.cutStrFrom rfl rfl rfl ?_ ?_ <;> omega) | exact PEv.rem128 rfl rfl | exact PEv.quo128 rfl rfl (by omega) | exact PEv.cut2 rfl rfl rfl rfl (by omega) (by omega) (by omega) (by omega))) ?_ | refine GL.store ?_ | refine GL.storeN ?_ | refine GL.boxA (fun g => ?_) | refine GL.box1 (fun g => ?_) | refine GL.alloc1 rfl (fun g => ?_) | refine GL.allocA (fun g => ?_) | refine GL.no ?_) | ((with_reducible show G _ _ _ (Item.code (Code.cond _ _ _) :: _) _ _ _); first | refine G.condT rfl ?_ | refine G.condF rfl ?_ | refine G.condYes rfl (by omega) ?_ | refine G.condNo rfl (by omega) ?_) | (with_reducible refine G.exit rfl ?_))
        have hcap1 := hb.cap
        have hsz : ∀ L : List UInt8, (⟨L.toArray⟩ : ByteArray).size = L.length := fun L => by simp [ByteArray.size]
        refine GL.call rfl rfl (reads_calls ⟨(l.flatMap fenc).toArray⟩ A i c l _ hf1 (by rw [hsz]; omega) hall) .nil fun v s2 h2 hp hle2 => ?_
        obtain ⟨e1, rfl⟩ := hp
        rw [decide_eq_true (show (⟨(l.flatMap fenc).toArray⟩ : ByteArray).data.toList = l.flatMap fenc from rfl)] at e1
        cases e1
        rw [List.nil_append]
        have hb2 := hb.le hle2
        have hf2 := hf1.le hle2
        by_cases hi0 : i = 0
        · have hl0 : l = [] := List.length_eq_zero_iff.1 (by omega)
          have hM0 : M = 0 := by rw [← hlen, hl0]; rfl
          repeat (first | (with_reducible refine GL.nil ?_) | (with_reducible refine G.region ?_) | (with_reducible refine G.seq ?_) | (with_reducible refine G.skip ?_) | (with_reducible refine G.block ?_) | (with_reducible refine G.inBlock ?_) | (with_reducible refine G.label ?_) | ((with_reducible show GL _ _ _ _ (_ :: _) _ _ _ _); first | refine GL.p ?_ | refine GL.p (he := by first | (first | exact PEv.eqC rfl rfl rfl rfl | exact PEv.makeIface rfl rfl (by intro ms h; cases h) | exact PEv.neC rfl rfl rfl rfl | exact PEv.buildA rfl rfl rfl | exact PEv.indexArr rfl rfl rfl (by decide) (by decide) rfl rfl | (apply PEv.string rfl rfl; assumption) | (refine PEv.cutStr rfl rfl rfl rfl ?_ ?_ ?_ <;> omega)) | (first | (refine PEv.cutStrTo rfl rfl rfl ?_ ?_ <;> omega) | (refine PEv.cutStrFrom rfl rfl rfl ?_ ?_ <;> omega) | exact PEv.rem128 rfl rfl | exact PEv.quo128 rfl rfl (by omega) | exact PEv.cut2 rfl rfl rfl rfl (by omega) (by omega) (by omega) (by omega))) ?_ | refine GL.store ?_ | refine GL.storeN ?_ | refine GL.boxA (fun g => ?_) | refine GL.box1 (fun g => ?_) | refine GL.alloc1 rfl (fun g => ?_) | refine GL.allocA (fun g => ?_) | refine GL.no ?_) | ((with_reducible show G _ _ _ (Item.code (Code.cond _ _ _) :: _) _ _ _); first | refine G.condT rfl ?_ | refine G.condF rfl ?_ | refine G.condYes rfl (by omega) ?_ | refine G.condNo rfl (by omega) ?_) | (with_reducible refine G.exit rfl ?_))
          refine GL.call rfl rfl (wakes2_calls _) .nil fun v s3 h2 hp hle3 => ?_
          obtain ⟨e1, rfl⟩ := hp
          cases e1
          repeat (first | (with_reducible refine GL.nil ?_) | (with_reducible refine G.region ?_) | (with_reducible refine G.seq ?_) | (with_reducible refine G.skip ?_) | (with_reducible refine G.block ?_) | (with_reducible refine G.inBlock ?_) | (with_reducible refine G.label ?_) | ((with_reducible show GL _ _ _ _ (_ :: _) _ _ _ _); first | refine GL.p ?_ | refine GL.p (he := by first | (first | exact PEv.eqC rfl rfl rfl rfl | exact PEv.makeIface rfl rfl (by intro ms h; cases h) | exact PEv.neC rfl rfl rfl rfl | exact PEv.buildA rfl rfl rfl | exact PEv.indexArr rfl rfl rfl (by decide) (by decide) rfl rfl | (apply PEv.string rfl rfl; assumption) | (refine PEv.cutStr rfl rfl rfl rfl ?_ ?_ ?_ <;> omega)) | (first | (refine PEv.cutStrTo rfl rfl rfl ?_ ?_ <;> omega) | (refine PEv.cutStrFrom rfl rfl rfl ?_ ?_ <;> omega) | exact PEv.rem128 rfl rfl | exact PEv.quo128 rfl rfl (by omega) | exact PEv.cut2 rfl rfl rfl rfl (by omega) (by omega) (by omega) (by omega))) ?_ | refine GL.store ?_ | refine GL.storeN ?_ | refine GL.boxA (fun g => ?_) | refine GL.box1 (fun g => ?_) | refine GL.alloc1 rfl (fun g => ?_) | refine GL.allocA (fun g => ?_) | refine GL.no ?_) | ((with_reducible show G _ _ _ (Item.code (Code.cond _ _ _) :: _) _ _ _); first | refine G.condT rfl ?_ | refine G.condF rfl ?_ | refine G.condYes rfl (by omega) ?_ | refine G.condNo rfl (by omega) ?_) | (with_reducible refine G.exit rfl ?_))
          refine G.sub .nil ?_
          refine G.ret1 ok rfl ?_
          exact ⟨rfl, rfl⟩
        · have hM0 : 0 < M := by
            cases l with
            | nil => simp at hl; omega
            | cons x t =>
              have := (fenc_len (hall x (List.mem_cons_self ..))).1
              rw [List.flatMap_cons, List.length_append] at hlen
              omega
          repeat (first | (with_reducible refine GL.nil ?_) | (with_reducible refine G.region ?_) | (with_reducible refine G.seq ?_) | (with_reducible refine G.skip ?_) | (with_reducible refine G.block ?_) | (with_reducible refine G.inBlock ?_) | (with_reducible refine G.label ?_) | ((with_reducible show GL _ _ _ _ (_ :: _) _ _ _ _); first | refine GL.p ?_ | refine GL.p (he := by first | (first | exact PEv.eqC rfl rfl rfl rfl | exact PEv.makeIface rfl rfl (by intro ms h; cases h) | exact PEv.neC rfl rfl rfl rfl | exact PEv.buildA rfl rfl rfl | exact PEv.indexArr rfl rfl rfl (by decide) (by decide) rfl rfl | (apply PEv.string rfl rfl; assumption) | (refine PEv.cutStr rfl rfl rfl rfl ?_ ?_ ?_ <;> omega)) | (first | (refine PEv.cutStrTo rfl rfl rfl ?_ ?_ <;> omega) | (refine PEv.cutStrFrom rfl rfl rfl ?_ ?_ <;> omega) | exact PEv.rem128 rfl rfl | exact PEv.quo128 rfl rfl (by omega) | exact PEv.cut2 rfl rfl rfl rfl (by omega) (by omega) (by omega) (by omega))) ?_ | refine GL.store ?_ | refine GL.storeN ?_ | refine GL.boxA (fun g => ?_) | refine GL.box1 (fun g => ?_) | refine GL.alloc1 rfl (fun g => ?_) | refine GL.allocA (fun g => ?_) | refine GL.no ?_) | ((with_reducible show G _ _ _ (Item.code (Code.cond _ _ _) :: _) _ _ _); first | refine G.condT rfl ?_ | refine G.condF rfl ?_ | refine G.condYes rfl (by omega) ?_ | refine G.condNo rfl (by omega) ?_) | (with_reducible refine G.exit rfl ?_))
          refine GL.pure rfl (Wants.all rfl) (PEv.remI rfl rfl rfl (by omega)) rfl ?_
          obtain ⟨r1, r2⟩ := tmod_in cut (b := (M : Int)) (by omega)
          generalize cut.tmod (M : Int) = r at r1 r2 ⊢
          repeat (first | (with_reducible refine GL.nil ?_) | (with_reducible refine G.region ?_) | (with_reducible refine G.seq ?_) | (with_reducible refine G.skip ?_) | (with_reducible refine G.block ?_) | (with_reducible refine G.inBlock ?_) | (with_reducible refine G.label ?_) | ((with_reducible show GL _ _ _ _ (_ :: _) _ _ _ _); first | refine GL.p ?_ | refine GL.p (he := by first | (first | exact PEv.eqC rfl rfl rfl rfl | exact PEv.makeIface rfl rfl (by intro ms h; cases h) | exact PEv.neC rfl rfl rfl rfl | exact PEv.buildA rfl rfl rfl | exact PEv.indexArr rfl rfl rfl (by decide) (by decide) rfl rfl | (apply PEv.string rfl rfl; assumption) | (refine PEv.cutStr rfl rfl rfl rfl ?_ ?_ ?_ <;> omega)) | (first | (refine PEv.cutStrTo rfl rfl rfl ?_ ?_ <;> omega) | (refine PEv.cutStrFrom rfl rfl rfl ?_ ?_ <;> omega) | exact PEv.rem128 rfl rfl | exact PEv.quo128 rfl rfl (by omega) | exact PEv.cut2 rfl rfl rfl rfl (by omega) (by omega) (by omega) (by omega))) ?_ | refine GL.store ?_ | refine GL.storeN ?_ | refine GL.boxA (fun g => ?_) | refine GL.box1 (fun g => ?_) | refine GL.alloc1 rfl (fun g => ?_) | refine GL.allocA (fun g => ?_) | refine GL.no ?_) | ((with_reducible show G _ _ _ (Item.code (Code.cond _ _ _) :: _) _ _ _); first | refine G.condT rfl ?_ | refine G.condF rfl ?_ | refine G.condYes rfl (by omega) ?_ | refine G.condNo rfl (by omega) ?_) | (with_reducible refine G.exit rfl ?_))
          refine GL.pure rfl (Wants.all rfl) (PEv.remI rfl rfl rfl (by omega)) rfl ?_
          obtain ⟨k1, k2⟩ := tmod_pos (a := r + M) (b := (M : Int)) (by omega) (by omega)
          generalize (r + (M : Int)).tmod (M : Int) = k at k1 k2 ⊢
          obtain ⟨k, rfl⟩ := Int.eq_ofNat_of_zero_le k1
          refine GL.pure rfl (Wants.all rfl) (PEv.cut1 rfl rfl rfl (by omega) (by omega)) rfl ?_
          rw [Int.toNat_natCast]
          have hb3 := hb2.take1 k (by omega)
          repeat (first | (with_reducible refine GL.nil ?_) | (with_reducible refine G.region ?_) | (with_reducible refine G.seq ?_) | (with_reducible refine G.skip ?_) | (with_reducible refine G.block ?_) | (with_reducible refine G.inBlock ?_) | (with_reducible refine G.label ?_) | ((with_reducible show GL _ _ _ _ (_ :: _) _ _ _ _); first | refine GL.p ?_ | refine GL.p (he := by first | (first | exact PEv.eqC rfl rfl rfl rfl | exact PEv.makeIface rfl rfl (by intro ms h; cases h) | exact PEv.neC rfl rfl rfl rfl | exact PEv.buildA rfl rfl rfl | exact PEv.indexArr rfl rfl rfl (by decide) (by decide) rfl rfl | (apply PEv.string rfl rfl; assumption) | (refine PEv.cutStr rfl rfl rfl rfl ?_ ?_ ?_ <;> omega)) | (first | (refine PEv.cutStrTo rfl rfl rfl ?_ ?_ <;> omega) | (refine PEv.cutStrFrom rfl rfl rfl ?_ ?_ <;> omega) | exact PEv.rem128 rfl rfl | exact PEv.quo128 rfl rfl (by omega) | exact PEv.cut2 rfl rfl rfl rfl (by omega) (by omega) (by omega) (by omega))) ?_ | refine GL.store ?_ | refine GL.storeN ?_ | refine GL.boxA (fun g => ?_) | refine GL.box1 (fun g => ?_) | refine GL.alloc1 rfl (fun g => ?_) | refine GL.allocA (fun g => ?_) | refine GL.no ?_) | ((with_reducible show G _ _ _ (Item.code (Code.cond _ _ _) :: _) _ _ _); first | refine G.condT rfl ?_ | refine G.condF rfl ?_ | refine G.condYes rfl (by omega) ?_ | refine G.condNo rfl (by omega) ?_) | (with_reducible refine G.exit rfl ?_))
          refine GL.call rfl rfl (reads_calls ⟨((l.flatMap fenc).take k).toArray⟩ A i c l _ hf2 (by rw [hsz, List.length_take]; omega) hall) .nil fun v s3 h2 hp hle3 => ?_
          obtain ⟨e1, rfl⟩ := hp
          rw [decide_eq_false (fun h => by
            have h9 : (l.flatMap fenc).take k = l.flatMap fenc := h
            have h10 := congrArg List.length h9
            rw [List.length_take, hlen] at h10
            omega)] at e1
          cases e1
          rw [List.nil_append]
          repeat (first | (with_reducible refine GL.nil ?_) | (with_reducible refine G.region ?_) | (with_reducible refine G.seq ?_) | (with_reducible refine G.skip ?_) | (with_reducible refine G.block ?_) | (with_reducible refine G.inBlock ?_) | (with_reducible refine G.label ?_) | ((with_reducible show GL _ _ _ _ (_ :: _) _ _ _ _); first | refine GL.p ?_ | refine GL.p (he := by first | (first | exact PEv.eqC rfl rfl rfl rfl | exact PEv.makeIface rfl rfl (by intro ms h; cases h) | exact PEv.neC rfl rfl rfl rfl | exact PEv.buildA rfl rfl rfl | exact PEv.indexArr rfl rfl rfl (by decide) (by decide) rfl rfl | (apply PEv.string rfl rfl; assumption) | (refine PEv.cutStr rfl rfl rfl rfl ?_ ?_ ?_ <;> omega)) | (first | (refine PEv.cutStrTo rfl rfl rfl ?_ ?_ <;> omega) | (refine PEv.cutStrFrom rfl rfl rfl ?_ ?_ <;> omega) | exact PEv.rem128 rfl rfl | exact PEv.quo128 rfl rfl (by omega) | exact PEv.cut2 rfl rfl rfl rfl (by omega) (by omega) (by omega) (by omega))) ?_ | refine GL.store ?_ | refine GL.storeN ?_ | refine GL.boxA (fun g => ?_) | refine GL.box1 (fun g => ?_) | refine GL.alloc1 rfl (fun g => ?_) | refine GL.allocA (fun g => ?_) | refine GL.no ?_) | ((with_reducible show G _ _ _ (Item.code (Code.cond _ _ _) :: _) _ _ _); first | refine G.condT rfl ?_ | refine G.condF rfl ?_ | refine G.condYes rfl (by omega) ?_ | refine G.condNo rfl (by omega) ?_) | (with_reducible refine G.exit rfl ?_))
          refine GL.call rfl rfl (wakes2_calls _) .nil fun v s4 h2 hp hle4 => ?_
          obtain ⟨e1, rfl⟩ := hp
          cases e1
          repeat (first | (with_reducible refine GL.nil ?_) | (with_reducible refine G.region ?_) | (with_reducible refine G.seq ?_) | (with_reducible refine G.skip ?_) | (with_reducible refine G.block ?_) | (with_reducible refine G.inBlock ?_) | (with_reducible refine G.label ?_) | ((with_reducible show GL _ _ _ _ (_ :: _) _ _ _ _); first | refine GL.p ?_ | refine GL.p (he := by first | (first | exact PEv.eqC rfl rfl rfl rfl | exact PEv.makeIface rfl rfl (by intro ms h; cases h) | exact PEv.neC rfl rfl rfl rfl | exact PEv.buildA rfl rfl rfl | exact PEv.indexArr rfl rfl rfl (by decide) (by decide) rfl rfl | (apply PEv.string rfl rfl; assumption) | (refine PEv.cutStr rfl rfl rfl rfl ?_ ?_ ?_ <;> omega)) | (first | (refine PEv.cutStrTo rfl rfl rfl ?_ ?_ <;> omega) | (refine PEv.cutStrFrom rfl rfl rfl ?_ ?_ <;> omega) | exact PEv.rem128 rfl rfl | exact PEv.quo128 rfl rfl (by omega) | exact PEv.cut2 rfl rfl rfl rfl (by omega) (by omega) (by omega) (by omega))) ?_ | refine GL.store ?_ | refine GL.storeN ?_ | refine GL.boxA (fun g => ?_) | refine GL.box1 (fun g => ?_) | refine GL.alloc1 rfl (fun g => ?_) | refine GL.allocA (fun g => ?_) | refine GL.no ?_) | ((with_reducible show G _ _ _ (Item.code (Code.cond _ _ _) :: _) _ _ _); first | refine G.condT rfl ?_ | refine G.condF rfl ?_ | refine G.condYes rfl (by omega) ?_ | refine G.condNo rfl (by omega) ?_) | (with_reducible refine G.exit rfl ?_))
          refine G.sub .nil ?_
          refine G.ret1 ok rfl ?_
          exact ⟨rfl, rfl⟩
end Go.Proofs.Ytgggcfhmcelioaa
