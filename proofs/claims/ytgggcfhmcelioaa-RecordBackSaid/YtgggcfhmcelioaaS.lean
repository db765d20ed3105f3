/- Batches of records. No statement of the seat is proved here. -/
import Derived.Test.YtgggcfhmcelioaaF
import Derived.Test.YtgggcfhmcelioaaK
namespace Go.Proofs.Ytgggcfhmcelioaa
open Go.RowKit
/-- A record; a record's cells. -/
structure Rec where
  key : ByteArray
  value : ByteArray
instance : DecidableEq Rec := fun a b => decidable_of_iff (a.key = b.key ∧ a.value = b.value) (by cases a; cases b; simp)
def rcells (l : List Rec) : List Value := l.flatMap fun r => [.string r.key, .string r.value]
theorem rcells_cons (r : Rec) (l : List Rec) : rcells (r :: l) = .string r.key :: .string r.value :: rcells l := rfl
theorem rcells_drop : ∀ (l : List Rec) (i : Nat), (rcells l).drop (i * 2) = rcells (l.drop i)
  | l, 0 => by simp
  | [], i + 1 => by simp [rcells]
  | r :: l, i + 1 => by
    rw [rcells_cons, show (i + 1) * 2 = i * 2 + 1 + 1 from by omega]
    simp only [List.drop_succ_cons]
    exact rcells_drop l i
theorem rcells_take : ∀ (l : List Rec) (i : Nat), (rcells l).take (i * 2) = rcells (l.take i)
  | l, 0 => by simp [rcells]
  | [], i + 1 => by simp [rcells]
  | r :: l, i + 1 => by
    rw [rcells_cons, show (i + 1) * 2 = i * 2 + 1 + 1 from by omega]
    simp only [List.take_succ_cons]
    rw [rcells_take l i]
    rfl
theorem rcells_at (l : List Rec) (i : Nat) (hi : i < l.length) : ((rcells l).drop ((i : Int).toNat * 2)).take 2 = [.string l[i].key, .string l[i].value] ∧ (rcells l)[(i : Int).toNat * 2 + 0]? = some (.string l[i].key) ∧ (rcells l)[(i : Int).toNat * 2 + 1]? = some (.string l[i].value) := by
  rw [Int.toNat_natCast]
  have h : (rcells l).drop (i * 2) = .string l[i].key :: .string l[i].value :: rcells (l.drop (i + 1)) := by
    rw [rcells_drop, List.drop_eq_getElem_cons hi]
    rfl
  refine ⟨by rw [h]; rfl, ?_, ?_⟩
  · rw [← List.getElem?_drop, h]; rfl
  · rw [← List.getElem?_drop, h]; rfl
/-- A batch as a value; its records never change. -/
abbrev batV (p e q : Int) (t : Bool) (A : Option Addr) (n c : Nat) : Value := .agg [.int .i64 p, .int .i64 e, .int .i64 q, .bool t, .slice A n c].toArray
abbrev Rs (s : Store) (A : Option Addr) (n c : Nat) (l : List Rec) : Prop := Sl s A n c 2 (rcells l)
theorem Sl.rlen {s : Store} {A : Option Addr} {n c : Nat} {l : List Rec} (h : Rs s A n c l) : l.length = n := by
  have := h.len
  have h2 : ∀ l : List Rec, (rcells l).length = 2 * l.length := fun l => by induction l with
    | nil => rfl
    | cons r l ih => rw [rcells_cons]; simp [ih]; omega
  rw [h2] at this
  omega
def fitsR (r : Rec) : Bool := decide (r.key.size ≤ 16 ∧ r.value.size ≤ 16)
def mayP (p e q : Int) (l : List Rec) : Prop := (1 ≤ p ∧ p ≤ 8) ∧ (0 ≤ e ∧ e ≤ 100) ∧ (1 ≤ l.length ∧ l.length ≤ 4) ∧ (0 ≤ q ∧ q ≤ 1048576 - l.length) ∧ l.all fitsR = true
instance (p e q : Int) (l : List Rec) : Decidable (mayP p e q l) := by unfold mayP; infer_instance

theorem in_calls (n a b : Int) (s : Store) : Fn Try.prog 52 #[.int .i64 n, .int .i64 a, .int .i64 b] s [] (fun e s' h' => e = .returned (.bool (decide (a ≤ n ∧ n ≤ b))) ∧ s' = s ∧ h' = []) := by
  refine Fn.intro (args := [.int .i64 n, .int .i64 a, .int .i64 b]) Try.func52 rfl Try.ntmps52 (Nat.le_of_ble_eq_true rfl) (fun C ok hh => ?_)
  by_cases h1 : a ≤ n
  · by_cases h2 : n ≤ b
    all_goals
      repeat (first | (with_reducible refine GL.nil ?_) | (with_reducible refine G.region ?_) | (with_reducible refine G.seq ?_) | (with_reducible refine G.skip ?_) | (with_reducible refine G.block ?_) | (with_reducible refine G.inBlock ?_) | (with_reducible refine G.label ?_) | ((with_reducible show GL _ _ _ _ (_ :: _) _ _ _ _); first | refine GL.p ?_ | refine GL.p (he := by first | (first | exact PEv.eqC rfl rfl rfl rfl | exact PEv.makeIface rfl rfl (by intro ms h; cases h) | exact PEv.neC rfl rfl rfl rfl | exact PEv.buildA rfl rfl rfl | exact PEv.indexArr rfl rfl rfl (by decide) (by decide) rfl rfl | (apply PEv.string rfl rfl; assumption) | (refine PEv.cutStr rfl rfl rfl rfl ?_ ?_ ?_ <;> omega)) | (first | (refine PEv.cutStrTo rfl rfl rfl ?_ ?_ <;> omega) | (refine PEv.cutStrFrom rfl rfl rfl ?_ ?_ <;> omega) | exact PEv.rem128 rfl rfl | exact PEv.quo128 rfl rfl | exact PEv.cut2 rfl rfl rfl rfl (by omega) (by omega) (by omega) (by omega))) ?_ | refine GL.store ?_ | refine GL.storeN ?_ | refine GL.boxA (fun g => ?_) | refine GL.box1 (fun g => ?_) | refine GL.alloc1 rfl (fun g => ?_) | refine GL.allocA (fun g => ?_) | refine GL.no ?_) | ((with_reducible show G _ _ _ (Item.code (Code.cond _ _ _) :: _) _ _ _); first | refine G.condT rfl ?_ | refine G.condF rfl ?_ | refine G.condYes rfl (by omega) ?_ | refine G.condNo rfl (by omega) ?_) | (with_reducible refine G.exit rfl ?_))
      refine G.ret1 ok rfl ?_
      exact ⟨by simp [h1, h2], rfl, rfl⟩
  · repeat (first | (with_reducible refine GL.nil ?_) | (with_reducible refine G.region ?_) | (with_reducible refine G.seq ?_) | (with_reducible refine G.skip ?_) | (with_reducible refine G.block ?_) | (with_reducible refine G.inBlock ?_) | (with_reducible refine G.label ?_) | ((with_reducible show GL _ _ _ _ (_ :: _) _ _ _ _); first | refine GL.p ?_ | refine GL.p (he := by first | (first | exact PEv.eqC rfl rfl rfl rfl | exact PEv.makeIface rfl rfl (by intro ms h; cases h) | exact PEv.neC rfl rfl rfl rfl | exact PEv.buildA rfl rfl rfl | exact PEv.indexArr rfl rfl rfl (by decide) (by decide) rfl rfl | (apply PEv.string rfl rfl; assumption) | (refine PEv.cutStr rfl rfl rfl rfl ?_ ?_ ?_ <;> omega)) | (first | (refine PEv.cutStrTo rfl rfl rfl ?_ ?_ <;> omega) | (refine PEv.cutStrFrom rfl rfl rfl ?_ ?_ <;> omega) | exact PEv.rem128 rfl rfl | exact PEv.quo128 rfl rfl | exact PEv.cut2 rfl rfl rfl rfl (by omega) (by omega) (by omega) (by omega))) ?_ | refine GL.store ?_ | refine GL.storeN ?_ | refine GL.boxA (fun g => ?_) | refine GL.box1 (fun g => ?_) | refine GL.alloc1 rfl (fun g => ?_) | refine GL.allocA (fun g => ?_) | refine GL.no ?_) | ((with_reducible show G _ _ _ (Item.code (Code.cond _ _ _) :: _) _ _ _); first | refine G.condT rfl ?_ | refine G.condF rfl ?_ | refine G.condYes rfl (by omega) ?_ | refine G.condNo rfl (by omega) ?_) | (with_reducible refine G.exit rfl ?_))
    refine G.ret1 ok rfl ?_
    exact ⟨by simp [h1], rfl, rfl⟩
theorem behind_calls (p e q : Int) (t : Bool) (A : Option Addr) (n c : Nat) (s : Store) (hq : 0 ≤ q ∧ q ≤ 1099511627776) (hn : n ≤ 1099511627776) : Fn Try.prog 17 #[batV p e q t A n c] s [] (fun e s' h' => e = .returned (.int .i64 (q + n)) ∧ s' = s ∧ h' = []) := by
  refine Fn.intro (args := [batV p e q t A n c]) Try.func17 rfl Try.ntmps17 (Nat.le_of_ble_eq_true rfl) (fun C ok hh => ?_)
  repeat (first | (with_reducible refine GL.nil ?_) | (with_reducible refine G.region ?_) | (with_reducible refine G.seq ?_) | (with_reducible refine G.skip ?_) | (with_reducible refine G.block ?_) | (with_reducible refine G.inBlock ?_) | (with_reducible refine G.label ?_) | ((with_reducible show GL _ _ _ _ (_ :: _) _ _ _ _); first | refine GL.p ?_ | refine GL.p (he := by first | (first | exact PEv.eqC rfl rfl rfl rfl | exact PEv.makeIface rfl rfl (by intro ms h; cases h) | exact PEv.neC rfl rfl rfl rfl | exact PEv.buildA rfl rfl rfl | exact PEv.indexArr rfl rfl rfl (by decide) (by decide) rfl rfl | (apply PEv.string rfl rfl; assumption) | (refine PEv.cutStr rfl rfl rfl rfl ?_ ?_ ?_ <;> omega)) | (first | (refine PEv.cutStrTo rfl rfl rfl ?_ ?_ <;> omega) | (refine PEv.cutStrFrom rfl rfl rfl ?_ ?_ <;> omega) | exact PEv.rem128 rfl rfl | exact PEv.quo128 rfl rfl | exact PEv.cut2 rfl rfl rfl rfl (by omega) (by omega) (by omega) (by omega))) ?_ | refine GL.store ?_ | refine GL.storeN ?_ | refine GL.boxA (fun g => ?_) | refine GL.box1 (fun g => ?_) | refine GL.alloc1 rfl (fun g => ?_) | refine GL.allocA (fun g => ?_) | refine GL.no ?_) | ((with_reducible show G _ _ _ (Item.code (Code.cond _ _ _) :: _) _ _ _); first | refine G.condT rfl ?_ | refine G.condF rfl ?_ | refine G.condYes rfl (by omega) ?_ | refine G.condNo rfl (by omega) ?_) | (with_reducible refine G.exit rfl ?_))
  refine G.sub .nil ?_
  refine G.ret1 ok rfl ?_
  exact ⟨rfl, rfl, rfl⟩
theorem may_calls (p e q : Int) (t : Bool) (A : Option Addr) (n c : Nat) (l : List Rec) (s : Store) (hr : Rs s A n c l) : Fn Try.prog 16 #[batV p e q t A n c] s [] (fun e' s' h' => e' = .returned (.bool (decide (mayP p e q l))) ∧ s' = s ∧ h' = []) := by
  have hl := hr.rlen
  refine Fn.intro (args := [batV p e q t A n c]) Try.func16 rfl Try.ntmps16 (Nat.le_of_ble_eq_true rfl) (fun C ok hh => ?_)
  repeat (first | (with_reducible refine GL.nil ?_) | (with_reducible refine G.region ?_) | (with_reducible refine G.seq ?_) | (with_reducible refine G.skip ?_) | (with_reducible refine G.block ?_) | (with_reducible refine G.inBlock ?_) | (with_reducible refine G.label ?_) | ((with_reducible show GL _ _ _ _ (_ :: _) _ _ _ _); first | refine GL.p ?_ | refine GL.p (he := by first | (first | exact PEv.eqC rfl rfl rfl rfl | exact PEv.makeIface rfl rfl (by intro ms h; cases h) | exact PEv.neC rfl rfl rfl rfl | exact PEv.buildA rfl rfl rfl | exact PEv.indexArr rfl rfl rfl (by decide) (by decide) rfl rfl | (apply PEv.string rfl rfl; assumption) | (refine PEv.cutStr rfl rfl rfl rfl ?_ ?_ ?_ <;> omega)) | (first | (refine PEv.cutStrTo rfl rfl rfl ?_ ?_ <;> omega) | (refine PEv.cutStrFrom rfl rfl rfl ?_ ?_ <;> omega) | exact PEv.rem128 rfl rfl | exact PEv.quo128 rfl rfl | exact PEv.cut2 rfl rfl rfl rfl (by omega) (by omega) (by omega) (by omega))) ?_ | refine GL.store ?_ | refine GL.storeN ?_ | refine GL.boxA (fun g => ?_) | refine GL.box1 (fun g => ?_) | refine GL.alloc1 rfl (fun g => ?_) | refine GL.allocA (fun g => ?_) | refine GL.no ?_) | ((with_reducible show G _ _ _ (Item.code (Code.cond _ _ _) :: _) _ _ _); first | refine G.condT rfl ?_ | refine G.condF rfl ?_ | refine G.condYes rfl (by omega) ?_ | refine G.condNo rfl (by omega) ?_) | (with_reducible refine G.exit rfl ?_))
  refine GL.call rfl rfl (in_calls _ _ _ _) .nil fun v s1 h1 hp hle => ?_; obtain ⟨e1, hs1, rfl⟩ := hp; subst s1; cases e1; rw [List.nil_append]
  by_cases hp : 1 ≤ p ∧ p ≤ 8
  · repeat (first | (with_reducible refine GL.nil ?_) | (with_reducible refine G.region ?_) | (with_reducible refine G.seq ?_) | (with_reducible refine G.skip ?_) | (with_reducible refine G.block ?_) | (with_reducible refine G.inBlock ?_) | (with_reducible refine G.label ?_) | ((with_reducible show GL _ _ _ _ (_ :: _) _ _ _ _); first | refine GL.p ?_ | refine GL.p (he := by first | (first | exact PEv.eqC rfl rfl rfl rfl | exact PEv.makeIface rfl rfl (by intro ms h; cases h) | exact PEv.neC rfl rfl rfl rfl | exact PEv.buildA rfl rfl rfl | exact PEv.indexArr rfl rfl rfl (by decide) (by decide) rfl rfl | (apply PEv.string rfl rfl; assumption) | (refine PEv.cutStr rfl rfl rfl rfl ?_ ?_ ?_ <;> omega)) | (first | (refine PEv.cutStrTo rfl rfl rfl ?_ ?_ <;> omega) | (refine PEv.cutStrFrom rfl rfl rfl ?_ ?_ <;> omega) | exact PEv.rem128 rfl rfl | exact PEv.quo128 rfl rfl | exact PEv.cut2 rfl rfl rfl rfl (by omega) (by omega) (by omega) (by omega))) ?_ | refine GL.store ?_ | refine GL.storeN ?_ | refine GL.boxA (fun g => ?_) | refine GL.box1 (fun g => ?_) | refine GL.alloc1 rfl (fun g => ?_) | refine GL.allocA (fun g => ?_) | refine GL.no ?_) | ((with_reducible show G _ _ _ (Item.code (Code.cond _ _ _) :: _) _ _ _); first | refine G.condT rfl ?_ | refine G.condF rfl ?_ | refine G.condYes rfl (by omega) ?_ | refine G.condNo rfl (by omega) ?_) | (with_reducible refine G.exit rfl ?_))
    refine GL.call rfl rfl (in_calls _ _ _ _) .nil fun v s1 h1 hp hle => ?_; obtain ⟨e1, hs1, rfl⟩ := hp; subst s1; cases e1; rw [List.nil_append]
    by_cases he : 0 ≤ e ∧ e ≤ 100
    · repeat (first | (with_reducible refine GL.nil ?_) | (with_reducible refine G.region ?_) | (with_reducible refine G.seq ?_) | (with_reducible refine G.skip ?_) | (with_reducible refine G.block ?_) | (with_reducible refine G.inBlock ?_) | (with_reducible refine G.label ?_) | ((with_reducible show GL _ _ _ _ (_ :: _) _ _ _ _); first | refine GL.p ?_ | refine GL.p (he := by first | (first | exact PEv.eqC rfl rfl rfl rfl | exact PEv.makeIface rfl rfl (by intro ms h; cases h) | exact PEv.neC rfl rfl rfl rfl | exact PEv.buildA rfl rfl rfl | exact PEv.indexArr rfl rfl rfl (by decide) (by decide) rfl rfl | (apply PEv.string rfl rfl; assumption) | (refine PEv.cutStr rfl rfl rfl rfl ?_ ?_ ?_ <;> omega)) | (first | (refine PEv.cutStrTo rfl rfl rfl ?_ ?_ <;> omega) | (refine PEv.cutStrFrom rfl rfl rfl ?_ ?_ <;> omega) | exact PEv.rem128 rfl rfl | exact PEv.quo128 rfl rfl | exact PEv.cut2 rfl rfl rfl rfl (by omega) (by omega) (by omega) (by omega))) ?_ | refine GL.store ?_ | refine GL.storeN ?_ | refine GL.boxA (fun g => ?_) | refine GL.box1 (fun g => ?_) | refine GL.alloc1 rfl (fun g => ?_) | refine GL.allocA (fun g => ?_) | refine GL.no ?_) | ((with_reducible show G _ _ _ (Item.code (Code.cond _ _ _) :: _) _ _ _); first | refine G.condT rfl ?_ | refine G.condF rfl ?_ | refine G.condYes rfl (by omega) ?_ | refine G.condNo rfl (by omega) ?_) | (with_reducible refine G.exit rfl ?_))
      refine GL.call rfl rfl (in_calls _ _ _ _) .nil fun v s1 h1 hp hle => ?_; obtain ⟨e1, hs1, rfl⟩ := hp; subst s1; cases e1; rw [List.nil_append]
      by_cases hn : 1 ≤ (n : Int) ∧ (n : Int) ≤ 4
      · repeat (first | (with_reducible refine GL.nil ?_) | (with_reducible refine G.region ?_) | (with_reducible refine G.seq ?_) | (with_reducible refine G.skip ?_) | (with_reducible refine G.block ?_) | (with_reducible refine G.inBlock ?_) | (with_reducible refine G.label ?_) | ((with_reducible show GL _ _ _ _ (_ :: _) _ _ _ _); first | refine GL.p ?_ | refine GL.p (he := by first | (first | exact PEv.eqC rfl rfl rfl rfl | exact PEv.makeIface rfl rfl (by intro ms h; cases h) | exact PEv.neC rfl rfl rfl rfl | exact PEv.buildA rfl rfl rfl | exact PEv.indexArr rfl rfl rfl (by decide) (by decide) rfl rfl | (apply PEv.string rfl rfl; assumption) | (refine PEv.cutStr rfl rfl rfl rfl ?_ ?_ ?_ <;> omega)) | (first | (refine PEv.cutStrTo rfl rfl rfl ?_ ?_ <;> omega) | (refine PEv.cutStrFrom rfl rfl rfl ?_ ?_ <;> omega) | exact PEv.rem128 rfl rfl | exact PEv.quo128 rfl rfl | exact PEv.cut2 rfl rfl rfl rfl (by omega) (by omega) (by omega) (by omega))) ?_ | refine GL.store ?_ | refine GL.storeN ?_ | refine GL.boxA (fun g => ?_) | refine GL.box1 (fun g => ?_) | refine GL.alloc1 rfl (fun g => ?_) | refine GL.allocA (fun g => ?_) | refine GL.no ?_) | ((with_reducible show G _ _ _ (Item.code (Code.cond _ _ _) :: _) _ _ _); first | refine G.condT rfl ?_ | refine G.condF rfl ?_ | refine G.condYes rfl (by omega) ?_ | refine G.condNo rfl (by omega) ?_) | (with_reducible refine G.exit rfl ?_))
        refine GL.call rfl rfl (in_calls _ _ _ _) .nil fun v s1 h1 hp hle => ?_; obtain ⟨e1, hs1, rfl⟩ := hp; subst s1; cases e1; rw [List.nil_append]
        by_cases hq : 0 ≤ q ∧ q ≤ 1048576 - (n : Int)
        · repeat (first | (with_reducible refine GL.nil ?_) | (with_reducible refine G.region ?_) | (with_reducible refine G.seq ?_) | (with_reducible refine G.skip ?_) | (with_reducible refine G.block ?_) | (with_reducible refine G.inBlock ?_) | (with_reducible refine G.label ?_) | ((with_reducible show GL _ _ _ _ (_ :: _) _ _ _ _); first | refine GL.p ?_ | refine GL.p (he := by first | (first | exact PEv.eqC rfl rfl rfl rfl | exact PEv.makeIface rfl rfl (by intro ms h; cases h) | exact PEv.neC rfl rfl rfl rfl | exact PEv.buildA rfl rfl rfl | exact PEv.indexArr rfl rfl rfl (by decide) (by decide) rfl rfl | (apply PEv.string rfl rfl; assumption) | (refine PEv.cutStr rfl rfl rfl rfl ?_ ?_ ?_ <;> omega)) | (first | (refine PEv.cutStrTo rfl rfl rfl ?_ ?_ <;> omega) | (refine PEv.cutStrFrom rfl rfl rfl ?_ ?_ <;> omega) | exact PEv.rem128 rfl rfl | exact PEv.quo128 rfl rfl | exact PEv.cut2 rfl rfl rfl rfl (by omega) (by omega) (by omega) (by omega))) ?_ | refine GL.store ?_ | refine GL.storeN ?_ | refine GL.boxA (fun g => ?_) | refine GL.box1 (fun g => ?_) | refine GL.alloc1 rfl (fun g => ?_) | refine GL.allocA (fun g => ?_) | refine GL.no ?_) | ((with_reducible show G _ _ _ (Item.code (Code.cond _ _ _) :: _) _ _ _); first | refine G.condT rfl ?_ | refine G.condF rfl ?_ | refine G.condYes rfl (by omega) ?_ | refine G.condNo rfl (by omega) ?_) | (with_reducible refine G.exit rfl ?_))
          refine G.loop (fun x : Nat => [(29, .slice A n c), (30, .int .i64 n), (31, .int .i64 x)]) (fun _ => []) (fun x s' => s' = s ∧ x ≤ n ∧ (l.take x).all fitsR = true) (fun x => n - x) 0 (by ((repeat' (first | exact trivial | refine And.intro ?_ ?_)); all_goals (first | (refine congrArg some (congrArg (Value.int _) ?_); (try dsimp only); omega) | exact rfl))) .nil ⟨rfl, by omega, rfl⟩ ?_
          rintro i s' ⟨rfl, hi, ha⟩ ih
          try dsimp only at hi ha ⊢
          by_cases hlt : i < n
          · obtain ⟨hE, -, -⟩ := rcells_at l i (by omega)
            have hstep := List.take_succ_eq_append_getElem (l := l) (i := i) (by omega)
            have hle2 : ∀ r ∈ l.drop i, r ∈ l := fun r hr => List.mem_of_mem_drop hr
            have hmem : l[i] ∈ l := List.getElem_mem _
            generalize l[i] = r at hE hstep hmem
            by_cases hk : r.key.size ≤ 16
            · by_cases hv : r.value.size ≤ 16
              · repeat (first | (with_reducible refine GL.nil ?_) | (with_reducible refine G.region ?_) | (with_reducible refine G.seq ?_) | (with_reducible refine G.skip ?_) | (with_reducible refine G.block ?_) | (with_reducible refine G.inBlock ?_) | (with_reducible refine G.label ?_) | ((with_reducible show GL _ _ _ _ (_ :: _) _ _ _ _); first | refine GL.p ?_ | refine GL.p (he := by first | (first | exact PEv.eqC rfl rfl rfl rfl | exact PEv.makeIface rfl rfl (by intro ms h; cases h) | exact PEv.neC rfl rfl rfl rfl | exact PEv.buildA rfl rfl rfl | exact PEv.indexArr rfl rfl rfl (by decide) (by decide) rfl rfl | (apply PEv.string rfl rfl; assumption) | (refine PEv.cutStr rfl rfl rfl rfl ?_ ?_ ?_ <;> omega)) | (first | (refine PEv.cutStrTo rfl rfl rfl ?_ ?_ <;> omega) | (refine PEv.cutStrFrom rfl rfl rfl ?_ ?_ <;> omega) | exact PEv.rem128 rfl rfl | exact PEv.quo128 rfl rfl | exact PEv.cut2 rfl rfl rfl rfl (by omega) (by omega) (by omega) (by omega))) ?_ | refine GL.store ?_ | refine GL.storeN ?_ | refine GL.boxA (fun g => ?_) | refine GL.box1 (fun g => ?_) | refine GL.alloc1 rfl (fun g => ?_) | refine GL.allocA (fun g => ?_) | refine GL.no ?_) | ((with_reducible show G _ _ _ (Item.code (Code.cond _ _ _) :: _) _ _ _); first | refine G.condT rfl ?_ | refine G.condF rfl ?_ | refine G.condYes rfl (by omega) ?_ | refine G.condNo rfl (by omega) ?_) | (with_reducible refine G.exit rfl ?_))
                refine ih (i + 1) _ _ _ _ (by ((repeat' (first | exact trivial | refine And.intro ?_ ?_)); all_goals (first | (refine congrArg some (congrArg (Value.int _) ?_); (try dsimp only); omega) | exact rfl))) .nil ⟨rfl, by omega, ?_⟩ (by omega)
                rw [hstep, List.all_append, ha]
                simp [fitsR, hk, hv]
              · repeat (first | (with_reducible refine GL.nil ?_) | (with_reducible refine G.region ?_) | (with_reducible refine G.seq ?_) | (with_reducible refine G.skip ?_) | (with_reducible refine G.block ?_) | (with_reducible refine G.inBlock ?_) | (with_reducible refine G.label ?_) | ((with_reducible show GL _ _ _ _ (_ :: _) _ _ _ _); first | refine GL.p ?_ | refine GL.p (he := by first | (first | exact PEv.eqC rfl rfl rfl rfl | exact PEv.makeIface rfl rfl (by intro ms h; cases h) | exact PEv.neC rfl rfl rfl rfl | exact PEv.buildA rfl rfl rfl | exact PEv.indexArr rfl rfl rfl (by decide) (by decide) rfl rfl | (apply PEv.string rfl rfl; assumption) | (refine PEv.cutStr rfl rfl rfl rfl ?_ ?_ ?_ <;> omega)) | (first | (refine PEv.cutStrTo rfl rfl rfl ?_ ?_ <;> omega) | (refine PEv.cutStrFrom rfl rfl rfl ?_ ?_ <;> omega) | exact PEv.rem128 rfl rfl | exact PEv.quo128 rfl rfl | exact PEv.cut2 rfl rfl rfl rfl (by omega) (by omega) (by omega) (by omega))) ?_ | refine GL.store ?_ | refine GL.storeN ?_ | refine GL.boxA (fun g => ?_) | refine GL.box1 (fun g => ?_) | refine GL.alloc1 rfl (fun g => ?_) | refine GL.allocA (fun g => ?_) | refine GL.no ?_) | ((with_reducible show G _ _ _ (Item.code (Code.cond _ _ _) :: _) _ _ _); first | refine G.condT rfl ?_ | refine G.condF rfl ?_ | refine G.condYes rfl (by omega) ?_ | refine G.condNo rfl (by omega) ?_) | (with_reducible refine G.exit rfl ?_))
                refine G.sub .nil ?_
                refine G.ret1 ok rfl ?_
                refine ⟨?_, rfl, rfl⟩
                rw [decide_eq_false]
                intro hm
                have := List.all_eq_true.1 hm.2.2.2.2 r hmem
                simp [fitsR, hv] at this
            · repeat (first | (with_reducible refine GL.nil ?_) | (with_reducible refine G.region ?_) | (with_reducible refine G.seq ?_) | (with_reducible refine G.skip ?_) | (with_reducible refine G.block ?_) | (with_reducible refine G.inBlock ?_) | (with_reducible refine G.label ?_) | ((with_reducible show GL _ _ _ _ (_ :: _) _ _ _ _); first | refine GL.p ?_ | refine GL.p (he := by first | (first | exact PEv.eqC rfl rfl rfl rfl | exact PEv.makeIface rfl rfl (by intro ms h; cases h) | exact PEv.neC rfl rfl rfl rfl | exact PEv.buildA rfl rfl rfl | exact PEv.indexArr rfl rfl rfl (by decide) (by decide) rfl rfl | (apply PEv.string rfl rfl; assumption) | (refine PEv.cutStr rfl rfl rfl rfl ?_ ?_ ?_ <;> omega)) | (first | (refine PEv.cutStrTo rfl rfl rfl ?_ ?_ <;> omega) | (refine PEv.cutStrFrom rfl rfl rfl ?_ ?_ <;> omega) | exact PEv.rem128 rfl rfl | exact PEv.quo128 rfl rfl | exact PEv.cut2 rfl rfl rfl rfl (by omega) (by omega) (by omega) (by omega))) ?_ | refine GL.store ?_ | refine GL.storeN ?_ | refine GL.boxA (fun g => ?_) | refine GL.box1 (fun g => ?_) | refine GL.alloc1 rfl (fun g => ?_) | refine GL.allocA (fun g => ?_) | refine GL.no ?_) | ((with_reducible show G _ _ _ (Item.code (Code.cond _ _ _) :: _) _ _ _); first | refine G.condT rfl ?_ | refine G.condF rfl ?_ | refine G.condYes rfl (by omega) ?_ | refine G.condNo rfl (by omega) ?_) | (with_reducible refine G.exit rfl ?_))
              refine G.sub .nil ?_
              refine G.ret1 ok rfl ?_
              refine ⟨?_, rfl, rfl⟩
              rw [decide_eq_false]
              intro hm
              have := List.all_eq_true.1 hm.2.2.2.2 r hmem
              simp [fitsR, hk] at this
          · obtain rfl : i = n := by omega
            repeat (first | (with_reducible refine GL.nil ?_) | (with_reducible refine G.region ?_) | (with_reducible refine G.seq ?_) | (with_reducible refine G.skip ?_) | (with_reducible refine G.block ?_) | (with_reducible refine G.inBlock ?_) | (with_reducible refine G.label ?_) | ((with_reducible show GL _ _ _ _ (_ :: _) _ _ _ _); first | refine GL.p ?_ | refine GL.p (he := by first | (first | exact PEv.eqC rfl rfl rfl rfl | exact PEv.makeIface rfl rfl (by intro ms h; cases h) | exact PEv.neC rfl rfl rfl rfl | exact PEv.buildA rfl rfl rfl | exact PEv.indexArr rfl rfl rfl (by decide) (by decide) rfl rfl | (apply PEv.string rfl rfl; assumption) | (refine PEv.cutStr rfl rfl rfl rfl ?_ ?_ ?_ <;> omega)) | (first | (refine PEv.cutStrTo rfl rfl rfl ?_ ?_ <;> omega) | (refine PEv.cutStrFrom rfl rfl rfl ?_ ?_ <;> omega) | exact PEv.rem128 rfl rfl | exact PEv.quo128 rfl rfl | exact PEv.cut2 rfl rfl rfl rfl (by omega) (by omega) (by omega) (by omega))) ?_ | refine GL.store ?_ | refine GL.storeN ?_ | refine GL.boxA (fun g => ?_) | refine GL.box1 (fun g => ?_) | refine GL.alloc1 rfl (fun g => ?_) | refine GL.allocA (fun g => ?_) | refine GL.no ?_) | ((with_reducible show G _ _ _ (Item.code (Code.cond _ _ _) :: _) _ _ _); first | refine G.condT rfl ?_ | refine G.condF rfl ?_ | refine G.condYes rfl (by omega) ?_ | refine G.condNo rfl (by omega) ?_) | (with_reducible refine G.exit rfl ?_))
            refine G.sub .nil ?_
            refine G.ret1 ok rfl ?_
            refine ⟨?_, rfl, rfl⟩
            rw [decide_eq_true]
            rw [List.take_of_length_le (by omega)] at ha
            exact ⟨hp, he, by omega, by omega, ha⟩
        · repeat (first | (with_reducible refine GL.nil ?_) | (with_reducible refine G.region ?_) | (with_reducible refine G.seq ?_) | (with_reducible refine G.skip ?_) | (with_reducible refine G.block ?_) | (with_reducible refine G.inBlock ?_) | (with_reducible refine G.label ?_) | ((with_reducible show GL _ _ _ _ (_ :: _) _ _ _ _); first | refine GL.p ?_ | refine GL.p (he := by first | (first | exact PEv.eqC rfl rfl rfl rfl | exact PEv.makeIface rfl rfl (by intro ms h; cases h) | exact PEv.neC rfl rfl rfl rfl | exact PEv.buildA rfl rfl rfl | exact PEv.indexArr rfl rfl rfl (by decide) (by decide) rfl rfl | (apply PEv.string rfl rfl; assumption) | (refine PEv.cutStr rfl rfl rfl rfl ?_ ?_ ?_ <;> omega)) | (first | (refine PEv.cutStrTo rfl rfl rfl ?_ ?_ <;> omega) | (refine PEv.cutStrFrom rfl rfl rfl ?_ ?_ <;> omega) | exact PEv.rem128 rfl rfl | exact PEv.quo128 rfl rfl | exact PEv.cut2 rfl rfl rfl rfl (by omega) (by omega) (by omega) (by omega))) ?_ | refine GL.store ?_ | refine GL.storeN ?_ | refine GL.boxA (fun g => ?_) | refine GL.box1 (fun g => ?_) | refine GL.alloc1 rfl (fun g => ?_) | refine GL.allocA (fun g => ?_) | refine GL.no ?_) | ((with_reducible show G _ _ _ (Item.code (Code.cond _ _ _) :: _) _ _ _); first | refine G.condT rfl ?_ | refine G.condF rfl ?_ | refine G.condYes rfl (by omega) ?_ | refine G.condNo rfl (by omega) ?_) | (with_reducible refine G.exit rfl ?_))
          refine G.sub .nil ?_
          refine G.ret1 ok rfl ?_
          refine ⟨?_, rfl, rfl⟩
          rw [decide_eq_false]
          intro hm
          have := hm.2.2.2.1
          omega
      · repeat (first | (with_reducible refine GL.nil ?_) | (with_reducible refine G.region ?_) | (with_reducible refine G.seq ?_) | (with_reducible refine G.skip ?_) | (with_reducible refine G.block ?_) | (with_reducible refine G.inBlock ?_) | (with_reducible refine G.label ?_) | ((with_reducible show GL _ _ _ _ (_ :: _) _ _ _ _); first | refine GL.p ?_ | refine GL.p (he := by first | (first | exact PEv.eqC rfl rfl rfl rfl | exact PEv.makeIface rfl rfl (by intro ms h; cases h) | exact PEv.neC rfl rfl rfl rfl | exact PEv.buildA rfl rfl rfl | exact PEv.indexArr rfl rfl rfl (by decide) (by decide) rfl rfl | (apply PEv.string rfl rfl; assumption) | (refine PEv.cutStr rfl rfl rfl rfl ?_ ?_ ?_ <;> omega)) | (first | (refine PEv.cutStrTo rfl rfl rfl ?_ ?_ <;> omega) | (refine PEv.cutStrFrom rfl rfl rfl ?_ ?_ <;> omega) | exact PEv.rem128 rfl rfl | exact PEv.quo128 rfl rfl | exact PEv.cut2 rfl rfl rfl rfl (by omega) (by omega) (by omega) (by omega))) ?_ | refine GL.store ?_ | refine GL.storeN ?_ | refine GL.boxA (fun g => ?_) | refine GL.box1 (fun g => ?_) | refine GL.alloc1 rfl (fun g => ?_) | refine GL.allocA (fun g => ?_) | refine GL.no ?_) | ((with_reducible show G _ _ _ (Item.code (Code.cond _ _ _) :: _) _ _ _); first | refine G.condT rfl ?_ | refine G.condF rfl ?_ | refine G.condYes rfl (by omega) ?_ | refine G.condNo rfl (by omega) ?_) | (with_reducible refine G.exit rfl ?_))
        refine G.sub .nil ?_
        refine G.ret1 ok rfl ?_
        refine ⟨?_, rfl, rfl⟩
        rw [decide_eq_false]
        intro hm
        have := hm.2.2.1
        omega
    · repeat (first | (with_reducible refine GL.nil ?_) | (with_reducible refine G.region ?_) | (with_reducible refine G.seq ?_) | (with_reducible refine G.skip ?_) | (with_reducible refine G.block ?_) | (with_reducible refine G.inBlock ?_) | (with_reducible refine G.label ?_) | ((with_reducible show GL _ _ _ _ (_ :: _) _ _ _ _); first | refine GL.p ?_ | refine GL.p (he := by first | (first | exact PEv.eqC rfl rfl rfl rfl | exact PEv.makeIface rfl rfl (by intro ms h; cases h) | exact PEv.neC rfl rfl rfl rfl | exact PEv.buildA rfl rfl rfl | exact PEv.indexArr rfl rfl rfl (by decide) (by decide) rfl rfl | (apply PEv.string rfl rfl; assumption) | (refine PEv.cutStr rfl rfl rfl rfl ?_ ?_ ?_ <;> omega)) | (first | (refine PEv.cutStrTo rfl rfl rfl ?_ ?_ <;> omega) | (refine PEv.cutStrFrom rfl rfl rfl ?_ ?_ <;> omega) | exact PEv.rem128 rfl rfl | exact PEv.quo128 rfl rfl | exact PEv.cut2 rfl rfl rfl rfl (by omega) (by omega) (by omega) (by omega))) ?_ | refine GL.store ?_ | refine GL.storeN ?_ | refine GL.boxA (fun g => ?_) | refine GL.box1 (fun g => ?_) | refine GL.alloc1 rfl (fun g => ?_) | refine GL.allocA (fun g => ?_) | refine GL.no ?_) | ((with_reducible show G _ _ _ (Item.code (Code.cond _ _ _) :: _) _ _ _); first | refine G.condT rfl ?_ | refine G.condF rfl ?_ | refine G.condYes rfl (by omega) ?_ | refine G.condNo rfl (by omega) ?_) | (with_reducible refine G.exit rfl ?_))
      refine G.sub .nil ?_
      refine G.ret1 ok rfl ?_
      refine ⟨?_, rfl, rfl⟩
      rw [decide_eq_false]
      intro hm
      exact he hm.2.1
  · repeat (first | (with_reducible refine GL.nil ?_) | (with_reducible refine G.region ?_) | (with_reducible refine G.seq ?_) | (with_reducible refine G.skip ?_) | (with_reducible refine G.block ?_) | (with_reducible refine G.inBlock ?_) | (with_reducible refine G.label ?_) | ((with_reducible show GL _ _ _ _ (_ :: _) _ _ _ _); first | refine GL.p ?_ | refine GL.p (he := by first | (first | exact PEv.eqC rfl rfl rfl rfl | exact PEv.makeIface rfl rfl (by intro ms h; cases h) | exact PEv.neC rfl rfl rfl rfl | exact PEv.buildA rfl rfl rfl | exact PEv.indexArr rfl rfl rfl (by decide) (by decide) rfl rfl | (apply PEv.string rfl rfl; assumption) | (refine PEv.cutStr rfl rfl rfl rfl ?_ ?_ ?_ <;> omega)) | (first | (refine PEv.cutStrTo rfl rfl rfl ?_ ?_ <;> omega) | (refine PEv.cutStrFrom rfl rfl rfl ?_ ?_ <;> omega) | exact PEv.rem128 rfl rfl | exact PEv.quo128 rfl rfl | exact PEv.cut2 rfl rfl rfl rfl (by omega) (by omega) (by omega) (by omega))) ?_ | refine GL.store ?_ | refine GL.storeN ?_ | refine GL.boxA (fun g => ?_) | refine GL.box1 (fun g => ?_) | refine GL.alloc1 rfl (fun g => ?_) | refine GL.allocA (fun g => ?_) | refine GL.no ?_) | ((with_reducible show G _ _ _ (Item.code (Code.cond _ _ _) :: _) _ _ _); first | refine G.condT rfl ?_ | refine G.condF rfl ?_ | refine G.condYes rfl (by omega) ?_ | refine G.condNo rfl (by omega) ?_) | (with_reducible refine G.exit rfl ?_))
    refine G.sub .nil ?_
    refine G.ret1 ok rfl ?_
    refine ⟨?_, rfl, rfl⟩
    rw [decide_eq_false]
    intro hm
    exact hp hm.1
end Go.Proofs.Ytgggcfhmcelioaa
