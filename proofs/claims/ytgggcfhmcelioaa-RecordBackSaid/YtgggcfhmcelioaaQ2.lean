/- Batches: the same. No statement of the seat is proved here. -/
import Derived.Test.YtgggcfhmcelioaaS
namespace Go.Proofs.Ytgggcfhmcelioaa
open Go.RowKit
theorem sameL_rec (a b : Rec) : sameL [.string a.key, .string a.value] [.string b.key, .string b.value] = decide (a = b) := by
  cases a; cases b; simp [sameL, sameC]
def sameP (p e q : Int) (t : Bool) (l : List Rec) (p' e' q' : Int) (t' : Bool) (l' : List Rec) : Prop := p = p' ∧ e = e' ∧ q = q' ∧ t = t' ∧ l = l'
instance (p e q : Int) (t : Bool) (l : List Rec) (p' e' q' : Int) (t' : Bool) (l' : List Rec) : Decidable (sameP p e q t l p' e' q' t' l') := by unfold sameP; infer_instance
set_option maxHeartbeats 8000000 in
theorem same_calls (p e q : Int) (t : Bool) (A : Option Addr) (n c : Nat) (l : List Rec) (p' e' q' : Int) (t' : Bool) (A' : Option Addr) (n' c' : Nat) (l' : List Rec) (s : Store) (hr : Rs s A n c l) (hr' : Rs s A' n' c' l') :
    Fn Try.prog 18 #[batV p e q t A n c, batV p' e' q' t' A' n' c'] s [] (fun x s' h' => x = .returned (.bool (decide (sameP p e q t l p' e' q' t' l'))) ∧ s' = s ∧ h' = []) := by
  have hl := hr.rlen
  have hcap := hr.cap
  have hmax := hr.max
  have hl' := hr'.rlen
  refine Fn.intro (args := [batV p e q t A n c, batV p' e' q' t' A' n' c']) Try.func18 rfl Try.ntmps18 (Nat.le_of_ble_eq_true rfl) (fun C ok hh => ?_)
  by_cases hp : p = p'
  · by_cases he : e = e'
    · by_cases hq : q = q'
      · by_cases ht : t = t'
        · by_cases hn : (n : Int) = n'
          · subst hp he hq ht
            obtain rfl : n = n' := by omega
            · repeat (first | (with_reducible refine GL.nil ?_) | (with_reducible refine G.region ?_) | (with_reducible refine G.seq ?_) | (with_reducible refine G.skip ?_) | (with_reducible refine G.block ?_) | (with_reducible refine G.inBlock ?_) | (with_reducible refine G.label ?_) | ((with_reducible show GL _ _ _ _ (_ :: _) _ _ _ _); first | refine GL.p ?_ | refine GL.p (he := by first | (first | exact PEv.eqC rfl rfl rfl rfl | exact PEv.neC rfl rfl rfl rfl | exact PEv.buildA rfl rfl rfl | exact PEv.indexArr rfl rfl rfl (by decide) (by decide) rfl rfl | (apply PEv.string rfl rfl; assumption) | exact PEv.cut2 rfl rfl rfl rfl (by omega) (by omega) (by omega) (by omega))) ?_ | refine GL.store ?_ | refine GL.storeN ?_ | refine GL.boxA (fun g => ?_) | refine GL.box1 (fun g => ?_) | refine GL.alloc1 (fun g => ?_) | refine GL.allocA (fun g => ?_) | refine GL.no ?_) | ((with_reducible show G _ _ _ (Item.code (Code.cond _ _ _) :: _) _ _ _); first | refine G.condT rfl ?_ | refine G.condF rfl ?_ | refine G.condYes rfl (by omega) ?_ | refine G.condNo rfl (by omega) ?_) | (with_reducible refine G.exit rfl ?_))
              rename_i g0
              refine G.loop (fun x : Nat => [(2, .pointer (some ⟨g0, 0, none⟩)), (3, .pointer (some ⟨g, 0, none⟩)), (5, .int .i64 x)]) (fun _ => [.blk g0 (.cells [.int .i64 p, .int .i64 e, .int .i64 q, .bool t, .slice A n c].toArray 24 (0, 0)), .blk g (.cells [.int .i64 p, .int .i64 e, .int .i64 q, .bool t, .slice A' n c'].toArray 24 (0, 0))]) (fun x s' => s' = s ∧ x ≤ n ∧ l.take x = l'.take x) (fun x => n - x) 0 (by ((repeat' (first | exact trivial | refine And.intro ?_ ?_)); all_goals (first | (refine congrArg some (congrArg (Value.int _) ?_); (try dsimp only); omega) | exact rfl))) (by (first | exact Split.refl _ | ((try dsimp only); repeat (first | exact Split.nil | (apply Split.cons; (repeat (first | exact Pick.head | apply Pick.tail))))))) ⟨rfl, by omega, by simp⟩ ?_
              rintro i s' ⟨rfl, hi, hs⟩ ih
              by_cases hlt : i < n
              · obtain ⟨hE, -, -⟩ := rcells_at l i (by omega)
                obtain ⟨hE', -, -⟩ := rcells_at l' i (by omega)
                have hstep := List.take_succ_eq_append_getElem (l := l) (i := i) (by omega)
                have hstep' := List.take_succ_eq_append_getElem (l := l') (i := i) (by omega)
                have hg : l[i]? = some (l[i]'(by omega)) := List.getElem?_eq_getElem _
                have hg' : l'[i]? = some (l'[i]'(by omega)) := List.getElem?_eq_getElem _
                generalize l[i]'(by omega) = r at hE hstep hg
                generalize l'[i]'(by omega) = r' at hE' hstep' hg'
                repeat (first | (with_reducible refine GL.nil ?_) | (with_reducible refine G.region ?_) | (with_reducible refine G.seq ?_) | (with_reducible refine G.skip ?_) | (with_reducible refine G.block ?_) | (with_reducible refine G.inBlock ?_) | (with_reducible refine G.label ?_) | ((with_reducible show GL _ _ _ _ (_ :: _) _ _ _ _); first | refine GL.p ?_ | refine GL.p (he := by first | (first | exact PEv.eqC rfl rfl rfl rfl | exact PEv.neC rfl rfl rfl rfl | exact PEv.buildA rfl rfl rfl | exact PEv.indexArr rfl rfl rfl (by decide) (by decide) rfl rfl | (apply PEv.string rfl rfl; assumption) | exact PEv.cut2 rfl rfl rfl rfl (by omega) (by omega) (by omega) (by omega))) ?_ | refine GL.store ?_ | refine GL.storeN ?_ | refine GL.boxA (fun g => ?_) | refine GL.box1 (fun g => ?_) | refine GL.alloc1 (fun g => ?_) | refine GL.allocA (fun g => ?_) | refine GL.no ?_) | ((with_reducible show G _ _ _ (Item.code (Code.cond _ _ _) :: _) _ _ _); first | refine G.condT rfl ?_ | refine G.condF rfl ?_ | refine G.condYes rfl (by omega) ?_ | refine G.condNo rfl (by omega) ?_) | (with_reducible refine G.exit rfl ?_))
                refine G.draw0 (m := 11) #[false, false, false, false, false, false, false, false, false, false, false] follows_mixed ?_
                (first | refine GD.p 0 #[true, false, false, false, false, false, false, false, false, false, false] ?_ | refine GD.no 0 #[true, false, false, false, false, false, false, false, false, false, false] ?_); (first | refine GD.p 1 #[true, true, false, false, false, false, false, false, false, false, false] ?_ | refine GD.no 1 #[true, true, false, false, false, false, false, false, false, false, false] ?_); (first | refine GD.p 2 #[true, true, true, false, false, false, false, false, false, false, false] ?_ | refine GD.no 2 #[true, true, true, false, false, false, false, false, false, false, false] ?_); (first | refine GD.p 3 #[true, true, true, true, false, false, false, false, false, false, false] ?_ | refine GD.no 3 #[true, true, true, true, false, false, false, false, false, false, false] ?_); (first | refine GD.p 4 #[true, true, true, true, true, false, false, false, false, false, false] ?_ | refine GD.no 4 #[true, true, true, true, true, false, false, false, false, false, false] ?_); (first | refine GD.p 5 #[true, true, true, true, true, true, false, false, false, false, false] ?_ | refine GD.no 5 #[true, true, true, true, true, true, false, false, false, false, false] ?_); (first | refine GD.p 6 #[true, true, true, true, true, true, true, false, false, false, false] ?_ | refine GD.no 6 #[true, true, true, true, true, true, true, false, false, false, false] ?_); (first | refine GD.p 7 #[true, true, true, true, true, true, true, true, false, false, false] ?_ | refine GD.no 7 #[true, true, true, true, true, true, true, true, false, false, false] ?_); (first | refine GD.p 8 #[true, true, true, true, true, true, true, true, true, false, false] ?_ | refine GD.no 8 #[true, true, true, true, true, true, true, true, true, false, false] ?_); (first | refine GD.p 9 #[true, true, true, true, true, true, true, true, true, true, false] ?_ | refine GD.no 9 #[true, true, true, true, true, true, true, true, true, true, false] ?_)
                refine GD.p (he := by first | (first | exact PEv.eqC rfl rfl rfl rfl | exact PEv.neC rfl rfl rfl rfl | exact PEv.buildA rfl rfl rfl | exact PEv.indexArr rfl rfl rfl (by decide) (by decide) rfl rfl | (apply PEv.string rfl rfl; assumption) | exact PEv.cut2 rfl rfl rfl rfl (by omega) (by omega) (by omega) (by omega))) 10 #[true, true, true, true, true, true, true, true, true, true, true] ?_
                refine GD.nil ?_
                rw [sameL_rec]
                by_cases hrr : r = r'
                · rw [decide_eq_true hrr]
                  repeat (first | (with_reducible refine GL.nil ?_) | (with_reducible refine G.region ?_) | (with_reducible refine G.seq ?_) | (with_reducible refine G.skip ?_) | (with_reducible refine G.block ?_) | (with_reducible refine G.inBlock ?_) | (with_reducible refine G.label ?_) | ((with_reducible show GL _ _ _ _ (_ :: _) _ _ _ _); first | refine GL.p ?_ | refine GL.p (he := by first | (first | exact PEv.eqC rfl rfl rfl rfl | exact PEv.neC rfl rfl rfl rfl | exact PEv.buildA rfl rfl rfl | exact PEv.indexArr rfl rfl rfl (by decide) (by decide) rfl rfl | (apply PEv.string rfl rfl; assumption) | exact PEv.cut2 rfl rfl rfl rfl (by omega) (by omega) (by omega) (by omega))) ?_ | refine GL.store ?_ | refine GL.storeN ?_ | refine GL.boxA (fun g => ?_) | refine GL.box1 (fun g => ?_) | refine GL.alloc1 (fun g => ?_) | refine GL.allocA (fun g => ?_) | refine GL.no ?_) | ((with_reducible show G _ _ _ (Item.code (Code.cond _ _ _) :: _) _ _ _); first | refine G.condT rfl ?_ | refine G.condF rfl ?_ | refine G.condYes rfl (by omega) ?_ | refine G.condNo rfl (by omega) ?_) | (with_reducible refine G.exit rfl ?_))
                  refine ih (i + 1) _ _ _ _ (by ((repeat' (first | exact trivial | refine And.intro ?_ ?_)); all_goals (first | (refine congrArg some (congrArg (Value.int _) ?_); (try dsimp only); omega) | exact rfl))) (by (first | exact Split.refl _ | ((try dsimp only); repeat (first | exact Split.nil | (apply Split.cons; (repeat (first | exact Pick.head | apply Pick.tail))))))) ⟨rfl, by omega, by rw [hstep, hstep', hs, hrr]⟩ (by omega)
                · rw [decide_eq_false hrr]
                  repeat (first | (with_reducible refine GL.nil ?_) | (with_reducible refine G.region ?_) | (with_reducible refine G.seq ?_) | (with_reducible refine G.skip ?_) | (with_reducible refine G.block ?_) | (with_reducible refine G.inBlock ?_) | (with_reducible refine G.label ?_) | ((with_reducible show GL _ _ _ _ (_ :: _) _ _ _ _); first | refine GL.p ?_ | refine GL.p (he := by first | (first | exact PEv.eqC rfl rfl rfl rfl | exact PEv.neC rfl rfl rfl rfl | exact PEv.buildA rfl rfl rfl | exact PEv.indexArr rfl rfl rfl (by decide) (by decide) rfl rfl | (apply PEv.string rfl rfl; assumption) | exact PEv.cut2 rfl rfl rfl rfl (by omega) (by omega) (by omega) (by omega))) ?_ | refine GL.store ?_ | refine GL.storeN ?_ | refine GL.boxA (fun g => ?_) | refine GL.box1 (fun g => ?_) | refine GL.alloc1 (fun g => ?_) | refine GL.allocA (fun g => ?_) | refine GL.no ?_) | ((with_reducible show G _ _ _ (Item.code (Code.cond _ _ _) :: _) _ _ _); first | refine G.condT rfl ?_ | refine G.condF rfl ?_ | refine G.condYes rfl (by omega) ?_ | refine G.condNo rfl (by omega) ?_) | (with_reducible refine G.exit rfl ?_))
                  refine G.sub .nil ?_
                  refine G.ret1 ok rfl ?_
                  refine ⟨?_, rfl, rfl⟩
                  rw [decide_eq_false]
                  rintro ⟨-, -, -, -, rfl⟩
                  rw [hg] at hg'
                  exact hrr (by simpa using hg')
              · obtain rfl : i = n := by omega
                repeat (first | (with_reducible refine GL.nil ?_) | (with_reducible refine G.region ?_) | (with_reducible refine G.seq ?_) | (with_reducible refine G.skip ?_) | (with_reducible refine G.block ?_) | (with_reducible refine G.inBlock ?_) | (with_reducible refine G.label ?_) | ((with_reducible show GL _ _ _ _ (_ :: _) _ _ _ _); first | refine GL.p ?_ | refine GL.p (he := by first | (first | exact PEv.eqC rfl rfl rfl rfl | exact PEv.neC rfl rfl rfl rfl | exact PEv.buildA rfl rfl rfl | exact PEv.indexArr rfl rfl rfl (by decide) (by decide) rfl rfl | (apply PEv.string rfl rfl; assumption) | exact PEv.cut2 rfl rfl rfl rfl (by omega) (by omega) (by omega) (by omega))) ?_ | refine GL.store ?_ | refine GL.storeN ?_ | refine GL.boxA (fun g => ?_) | refine GL.box1 (fun g => ?_) | refine GL.alloc1 (fun g => ?_) | refine GL.allocA (fun g => ?_) | refine GL.no ?_) | ((with_reducible show G _ _ _ (Item.code (Code.cond _ _ _) :: _) _ _ _); first | refine G.condT rfl ?_ | refine G.condF rfl ?_ | refine G.condYes rfl (by omega) ?_ | refine G.condNo rfl (by omega) ?_) | (with_reducible refine G.exit rfl ?_))
                refine G.sub .nil ?_
                refine G.ret1 ok rfl ?_
                refine ⟨?_, rfl, rfl⟩
                rw [List.take_of_length_le (by omega), List.take_of_length_le (by omega)] at hs
                rw [decide_eq_true]
                exact ⟨rfl, rfl, rfl, rfl, hs⟩
          · subst hp he hq ht
            · repeat (first | (with_reducible refine GL.nil ?_) | (with_reducible refine G.region ?_) | (with_reducible refine G.seq ?_) | (with_reducible refine G.skip ?_) | (with_reducible refine G.block ?_) | (with_reducible refine G.inBlock ?_) | (with_reducible refine G.label ?_) | ((with_reducible show GL _ _ _ _ (_ :: _) _ _ _ _); first | refine GL.p ?_ | refine GL.p (he := by first | (first | exact PEv.eqC rfl rfl rfl rfl | exact PEv.neC rfl rfl rfl rfl | exact PEv.buildA rfl rfl rfl | exact PEv.indexArr rfl rfl rfl (by decide) (by decide) rfl rfl | (apply PEv.string rfl rfl; assumption) | exact PEv.cut2 rfl rfl rfl rfl (by omega) (by omega) (by omega) (by omega))) ?_ | refine GL.store ?_ | refine GL.storeN ?_ | refine GL.boxA (fun g => ?_) | refine GL.box1 (fun g => ?_) | refine GL.alloc1 (fun g => ?_) | refine GL.allocA (fun g => ?_) | refine GL.no ?_) | ((with_reducible show G _ _ _ (Item.code (Code.cond _ _ _) :: _) _ _ _); first | refine G.condT rfl ?_ | refine G.condF rfl ?_ | refine G.condYes rfl (by omega) ?_ | refine G.condNo rfl (by omega) ?_) | (with_reducible refine G.exit rfl ?_))
              refine G.sub .nil ?_
              refine G.ret1 ok rfl ?_
              refine ⟨?_, rfl, rfl⟩
              rw [decide_eq_false]
              rintro ⟨-, -, -, -, rfl⟩
              omega
        · subst hp he hq
          cases t <;> cases t' <;> first | exact absurd rfl ht | skip
          all_goals
            repeat (first | (with_reducible refine GL.nil ?_) | (with_reducible refine G.region ?_) | (with_reducible refine G.seq ?_) | (with_reducible refine G.skip ?_) | (with_reducible refine G.block ?_) | (with_reducible refine G.inBlock ?_) | (with_reducible refine G.label ?_) | ((with_reducible show GL _ _ _ _ (_ :: _) _ _ _ _); first | refine GL.p ?_ | refine GL.p (he := by first | (first | exact PEv.eqC rfl rfl rfl rfl | exact PEv.neC rfl rfl rfl rfl | exact PEv.buildA rfl rfl rfl | exact PEv.indexArr rfl rfl rfl (by decide) (by decide) rfl rfl | (apply PEv.string rfl rfl; assumption) | exact PEv.cut2 rfl rfl rfl rfl (by omega) (by omega) (by omega) (by omega))) ?_ | refine GL.store ?_ | refine GL.storeN ?_ | refine GL.boxA (fun g => ?_) | refine GL.box1 (fun g => ?_) | refine GL.alloc1 (fun g => ?_) | refine GL.allocA (fun g => ?_) | refine GL.no ?_) | ((with_reducible show G _ _ _ (Item.code (Code.cond _ _ _) :: _) _ _ _); first | refine G.condT rfl ?_ | refine G.condF rfl ?_ | refine G.condYes rfl (by omega) ?_ | refine G.condNo rfl (by omega) ?_) | (with_reducible refine G.exit rfl ?_))
            refine G.sub .nil ?_
            refine G.ret1 ok rfl ?_
            refine ⟨?_, rfl, rfl⟩
            rw [decide_eq_false]
            rintro ⟨-, -, -, ht, -⟩
            cases ht
      · repeat (first | (with_reducible refine GL.nil ?_) | (with_reducible refine G.region ?_) | (with_reducible refine G.seq ?_) | (with_reducible refine G.skip ?_) | (with_reducible refine G.block ?_) | (with_reducible refine G.inBlock ?_) | (with_reducible refine G.label ?_) | ((with_reducible show GL _ _ _ _ (_ :: _) _ _ _ _); first | refine GL.p ?_ | refine GL.p (he := by first | (first | exact PEv.eqC rfl rfl rfl rfl | exact PEv.neC rfl rfl rfl rfl | exact PEv.buildA rfl rfl rfl | exact PEv.indexArr rfl rfl rfl (by decide) (by decide) rfl rfl | (apply PEv.string rfl rfl; assumption) | exact PEv.cut2 rfl rfl rfl rfl (by omega) (by omega) (by omega) (by omega))) ?_ | refine GL.store ?_ | refine GL.storeN ?_ | refine GL.boxA (fun g => ?_) | refine GL.box1 (fun g => ?_) | refine GL.alloc1 (fun g => ?_) | refine GL.allocA (fun g => ?_) | refine GL.no ?_) | ((with_reducible show G _ _ _ (Item.code (Code.cond _ _ _) :: _) _ _ _); first | refine G.condT rfl ?_ | refine G.condF rfl ?_ | refine G.condYes rfl (by omega) ?_ | refine G.condNo rfl (by omega) ?_) | (with_reducible refine G.exit rfl ?_))
        refine G.sub .nil ?_
        refine G.ret1 ok rfl ?_
        refine ⟨?_, rfl, rfl⟩
        rw [decide_eq_false]
        exact fun h => hq h.2.2.1
    · repeat (first | (with_reducible refine GL.nil ?_) | (with_reducible refine G.region ?_) | (with_reducible refine G.seq ?_) | (with_reducible refine G.skip ?_) | (with_reducible refine G.block ?_) | (with_reducible refine G.inBlock ?_) | (with_reducible refine G.label ?_) | ((with_reducible show GL _ _ _ _ (_ :: _) _ _ _ _); first | refine GL.p ?_ | refine GL.p (he := by first | (first | exact PEv.eqC rfl rfl rfl rfl | exact PEv.neC rfl rfl rfl rfl | exact PEv.buildA rfl rfl rfl | exact PEv.indexArr rfl rfl rfl (by decide) (by decide) rfl rfl | (apply PEv.string rfl rfl; assumption) | exact PEv.cut2 rfl rfl rfl rfl (by omega) (by omega) (by omega) (by omega))) ?_ | refine GL.store ?_ | refine GL.storeN ?_ | refine GL.boxA (fun g => ?_) | refine GL.box1 (fun g => ?_) | refine GL.alloc1 (fun g => ?_) | refine GL.allocA (fun g => ?_) | refine GL.no ?_) | ((with_reducible show G _ _ _ (Item.code (Code.cond _ _ _) :: _) _ _ _); first | refine G.condT rfl ?_ | refine G.condF rfl ?_ | refine G.condYes rfl (by omega) ?_ | refine G.condNo rfl (by omega) ?_) | (with_reducible refine G.exit rfl ?_))
      refine G.sub .nil ?_
      refine G.ret1 ok rfl ?_
      refine ⟨?_, rfl, rfl⟩
      rw [decide_eq_false]
      exact fun h => he h.2.1
  · repeat (first | (with_reducible refine GL.nil ?_) | (with_reducible refine G.region ?_) | (with_reducible refine G.seq ?_) | (with_reducible refine G.skip ?_) | (with_reducible refine G.block ?_) | (with_reducible refine G.inBlock ?_) | (with_reducible refine G.label ?_) | ((with_reducible show GL _ _ _ _ (_ :: _) _ _ _ _); first | refine GL.p ?_ | refine GL.p (he := by first | (first | exact PEv.eqC rfl rfl rfl rfl | exact PEv.neC rfl rfl rfl rfl | exact PEv.buildA rfl rfl rfl | exact PEv.indexArr rfl rfl rfl (by decide) (by decide) rfl rfl | (apply PEv.string rfl rfl; assumption) | exact PEv.cut2 rfl rfl rfl rfl (by omega) (by omega) (by omega) (by omega))) ?_ | refine GL.store ?_ | refine GL.storeN ?_ | refine GL.boxA (fun g => ?_) | refine GL.box1 (fun g => ?_) | refine GL.alloc1 (fun g => ?_) | refine GL.allocA (fun g => ?_) | refine GL.no ?_) | ((with_reducible show G _ _ _ (Item.code (Code.cond _ _ _) :: _) _ _ _); first | refine G.condT rfl ?_ | refine G.condF rfl ?_ | refine G.condYes rfl (by omega) ?_ | refine G.condNo rfl (by omega) ?_) | (with_reducible refine G.exit rfl ?_))
    refine G.sub .nil ?_
    refine G.ret1 ok rfl ?_
    refine ⟨?_, rfl, rfl⟩
    rw [decide_eq_false]
    exact fun h => hp h.1
end Go.Proofs.Ytgggcfhmcelioaa
