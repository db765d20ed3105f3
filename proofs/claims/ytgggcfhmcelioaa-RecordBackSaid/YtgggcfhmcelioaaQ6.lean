/- Unlike batches have unlike bytes: the walk. No statement of the seat is proved here. -/
import Derived.Test.YtgggcfhmcelioaaQ
import Derived.Test.YtgggcfhmcelioaaQ2
import Derived.Test.YtgggcfhmcelioaaQ5
import Derived.Test.YtgggcfhmcelioaaV2
namespace Go.Proofs.Ytgggcfhmcelioaa
open Go.RowKit
theorem same_bytes {p e q : Int} {t : Bool} {l : List Rec} {p' e' q' : Int} {t' : Bool} {l' : List Rec} (hm : mayP p e q l) (hm' : mayP p' e' q' l') :
    decide ((⟨(benc p e q t l).toArray⟩ : ByteArray) = ⟨(benc p' e' q' t' l').toArray⟩) = decide (sameP p e q t l p' e' q' t' l') := by
  obtain ⟨hp, he, hn, hq, ha⟩ := hm
  obtain ⟨hp', he', hn', hq', ha'⟩ := hm'
  obtain ⟨p, rfl⟩ := Int.eq_ofNat_of_zero_le (show 0 ≤ p by omega)
  obtain ⟨e, rfl⟩ := Int.eq_ofNat_of_zero_le (show 0 ≤ e by omega)
  obtain ⟨q, rfl⟩ := Int.eq_ofNat_of_zero_le (show 0 ≤ q by omega)
  obtain ⟨p', rfl⟩ := Int.eq_ofNat_of_zero_le (show 0 ≤ p' by omega)
  obtain ⟨e', rfl⟩ := Int.eq_ofNat_of_zero_le (show 0 ≤ e' by omega)
  obtain ⟨q', rfl⟩ := Int.eq_ofNat_of_zero_le (show 0 ≤ q' by omega)
  apply decide_eq_decide.2
  constructor
  · intro h
    have h2 : benc p e q t l = benc p' e' q' t' l' := by simpa using h
    have h3 := benc_inj p e q t l p' e' q' t' l' [] [] (by rw [h2])
    obtain ⟨⟨rfl, rfl, rfl, rfl, rfl⟩, -⟩ := h3
    exact ⟨rfl, rfl, rfl, rfl, rfl⟩
  · rintro ⟨h1, h2, h3, rfl, rfl⟩
    rw [h1, h2, h3]
set_option maxHeartbeats 8000000 in
theorem once_calls (p e q : Int) (t : Bool) (A : Option Addr) (n c : Nat) (l : List Rec) (p' e' q' : Int) (t' : Bool) (A' : Option Addr) (n' c' : Nat) (l' : List Rec) (s : Store) (hr : Rs s A n c l) (hr' : Rs s A' n' c' l') :
    Fn Try.prog 3 #[batV p e q t A n c, batV p' e' q' t' A' n' c'] s [] (fun x _ h' => x = .returned (.bool true) ∧ h' = []) := by
  have hl := hr.rlen
  have hcap := hr.cap
  have hmax := hr.max
  refine Fn.intro (args := [batV p e q t A n c, batV p' e' q' t' A' n' c']) Try.func3 rfl Try.ntmps3 (Nat.le_of_ble_eq_true rfl) (fun C ok hh => ?_)
  repeat (first | (with_reducible refine GL.nil ?_) | (with_reducible refine G.region ?_) | (with_reducible refine G.seq ?_) | (with_reducible refine G.skip ?_) | (with_reducible refine G.block ?_) | (with_reducible refine G.inBlock ?_) | (with_reducible refine G.label ?_) | ((with_reducible show GL _ _ _ _ (_ :: _) _ _ _ _); first | refine GL.p ?_ | refine GL.p (he := by first | (first | exact PEv.eqC rfl rfl rfl rfl | exact PEv.neC rfl rfl rfl rfl | exact PEv.buildA rfl rfl rfl | exact PEv.indexArr rfl rfl rfl (by decide) (by decide) rfl rfl | (apply PEv.string rfl rfl; assumption) | exact PEv.cut2 rfl rfl rfl rfl (by omega) (by omega) (by omega) (by omega))) ?_ | refine GL.store ?_ | refine GL.storeN ?_ | refine GL.boxA (fun g => ?_) | refine GL.box1 (fun g => ?_) | refine GL.alloc1 (fun g => ?_) | refine GL.allocA (fun g => ?_) | refine GL.no ?_) | ((with_reducible show G _ _ _ (Item.code (Code.cond _ _ _) :: _) _ _ _); first | refine G.condT rfl ?_ | refine G.condF rfl ?_ | refine G.condYes rfl (by omega) ?_ | refine G.condNo rfl (by omega) ?_) | (with_reducible refine G.exit rfl ?_))
  rename_i g0
  refine GL.call rfl rfl (great_calls p e q t A n c l _ hr) .nil fun v s1 h1 hp hle => ?_; obtain ⟨e1, hs1, rfl⟩ := hp; subst s1; cases e1; rw [List.nil_append]
  cases hg : greatB l with
  | true =>
    repeat (first | (with_reducible refine GL.nil ?_) | (with_reducible refine G.region ?_) | (with_reducible refine G.seq ?_) | (with_reducible refine G.skip ?_) | (with_reducible refine G.block ?_) | (with_reducible refine G.inBlock ?_) | (with_reducible refine G.label ?_) | ((with_reducible show GL _ _ _ _ (_ :: _) _ _ _ _); first | refine GL.p ?_ | refine GL.p (he := by first | (first | exact PEv.eqC rfl rfl rfl rfl | exact PEv.neC rfl rfl rfl rfl | exact PEv.buildA rfl rfl rfl | exact PEv.indexArr rfl rfl rfl (by decide) (by decide) rfl rfl | (apply PEv.string rfl rfl; assumption) | exact PEv.cut2 rfl rfl rfl rfl (by omega) (by omega) (by omega) (by omega))) ?_ | refine GL.store ?_ | refine GL.storeN ?_ | refine GL.boxA (fun g => ?_) | refine GL.box1 (fun g => ?_) | refine GL.alloc1 (fun g => ?_) | refine GL.allocA (fun g => ?_) | refine GL.no ?_) | ((with_reducible show G _ _ _ (Item.code (Code.cond _ _ _) :: _) _ _ _); first | refine G.condT rfl ?_ | refine G.condF rfl ?_ | refine G.condYes rfl (by omega) ?_ | refine G.condNo rfl (by omega) ?_) | (with_reducible refine G.exit rfl ?_))
    refine GL.call rfl rfl (wakes6_calls _) .nil fun v s2 h2 hp hle2 => ?_
    obtain ⟨e1, rfl⟩ := hp
    cases e1
    repeat (first | (with_reducible refine GL.nil ?_) | (with_reducible refine G.region ?_) | (with_reducible refine G.seq ?_) | (with_reducible refine G.skip ?_) | (with_reducible refine G.block ?_) | (with_reducible refine G.inBlock ?_) | (with_reducible refine G.label ?_) | ((with_reducible show GL _ _ _ _ (_ :: _) _ _ _ _); first | refine GL.p ?_ | refine GL.p (he := by first | (first | exact PEv.eqC rfl rfl rfl rfl | exact PEv.neC rfl rfl rfl rfl | exact PEv.buildA rfl rfl rfl | exact PEv.indexArr rfl rfl rfl (by decide) (by decide) rfl rfl | (apply PEv.string rfl rfl; assumption) | exact PEv.cut2 rfl rfl rfl rfl (by omega) (by omega) (by omega) (by omega))) ?_ | refine GL.store ?_ | refine GL.storeN ?_ | refine GL.boxA (fun g => ?_) | refine GL.box1 (fun g => ?_) | refine GL.alloc1 (fun g => ?_) | refine GL.allocA (fun g => ?_) | refine GL.no ?_) | ((with_reducible show G _ _ _ (Item.code (Code.cond _ _ _) :: _) _ _ _); first | refine G.condT rfl ?_ | refine G.condF rfl ?_ | refine G.condYes rfl (by omega) ?_ | refine G.condNo rfl (by omega) ?_) | (with_reducible refine G.exit rfl ?_))
    refine G.sub .nil ?_
    refine G.ret1 ok rfl ?_
    exact ⟨rfl, rfl⟩
  | false =>
    repeat (first | (with_reducible refine GL.nil ?_) | (with_reducible refine G.region ?_) | (with_reducible refine G.seq ?_) | (with_reducible refine G.skip ?_) | (with_reducible refine G.block ?_) | (with_reducible refine G.inBlock ?_) | (with_reducible refine G.label ?_) | ((with_reducible show GL _ _ _ _ (_ :: _) _ _ _ _); first | refine GL.p ?_ | refine GL.p (he := by first | (first | exact PEv.eqC rfl rfl rfl rfl | exact PEv.neC rfl rfl rfl rfl | exact PEv.buildA rfl rfl rfl | exact PEv.indexArr rfl rfl rfl (by decide) (by decide) rfl rfl | (apply PEv.string rfl rfl; assumption) | exact PEv.cut2 rfl rfl rfl rfl (by omega) (by omega) (by omega) (by omega))) ?_ | refine GL.store ?_ | refine GL.storeN ?_ | refine GL.boxA (fun g => ?_) | refine GL.box1 (fun g => ?_) | refine GL.alloc1 (fun g => ?_) | refine GL.allocA (fun g => ?_) | refine GL.no ?_) | ((with_reducible show G _ _ _ (Item.code (Code.cond _ _ _) :: _) _ _ _); first | refine G.condT rfl ?_ | refine G.condF rfl ?_ | refine G.condYes rfl (by omega) ?_ | refine G.condNo rfl (by omega) ?_) | (with_reducible refine G.exit rfl ?_))
    refine GL.call rfl rfl (great_calls p' e' q' t' A' n' c' l' _ hr') .nil fun v s1 h1 hp hle => ?_; obtain ⟨e1, hs1, rfl⟩ := hp; subst s1; cases e1; rw [List.nil_append]
    cases hg' : greatB l' with
    | true =>
      repeat (first | (with_reducible refine GL.nil ?_) | (with_reducible refine G.region ?_) | (with_reducible refine G.seq ?_) | (with_reducible refine G.skip ?_) | (with_reducible refine G.block ?_) | (with_reducible refine G.inBlock ?_) | (with_reducible refine G.label ?_) | ((with_reducible show GL _ _ _ _ (_ :: _) _ _ _ _); first | refine GL.p ?_ | refine GL.p (he := by first | (first | exact PEv.eqC rfl rfl rfl rfl | exact PEv.neC rfl rfl rfl rfl | exact PEv.buildA rfl rfl rfl | exact PEv.indexArr rfl rfl rfl (by decide) (by decide) rfl rfl | (apply PEv.string rfl rfl; assumption) | exact PEv.cut2 rfl rfl rfl rfl (by omega) (by omega) (by omega) (by omega))) ?_ | refine GL.store ?_ | refine GL.storeN ?_ | refine GL.boxA (fun g => ?_) | refine GL.box1 (fun g => ?_) | refine GL.alloc1 (fun g => ?_) | refine GL.allocA (fun g => ?_) | refine GL.no ?_) | ((with_reducible show G _ _ _ (Item.code (Code.cond _ _ _) :: _) _ _ _); first | refine G.condT rfl ?_ | refine G.condF rfl ?_ | refine G.condYes rfl (by omega) ?_ | refine G.condNo rfl (by omega) ?_) | (with_reducible refine G.exit rfl ?_))
      refine GL.call rfl rfl (wakes6_calls _) .nil fun v s2 h2 hp hle2 => ?_
      obtain ⟨e1, rfl⟩ := hp
      cases e1
      repeat (first | (with_reducible refine GL.nil ?_) | (with_reducible refine G.region ?_) | (with_reducible refine G.seq ?_) | (with_reducible refine G.skip ?_) | (with_reducible refine G.block ?_) | (with_reducible refine G.inBlock ?_) | (with_reducible refine G.label ?_) | ((with_reducible show GL _ _ _ _ (_ :: _) _ _ _ _); first | refine GL.p ?_ | refine GL.p (he := by first | (first | exact PEv.eqC rfl rfl rfl rfl | exact PEv.neC rfl rfl rfl rfl | exact PEv.buildA rfl rfl rfl | exact PEv.indexArr rfl rfl rfl (by decide) (by decide) rfl rfl | (apply PEv.string rfl rfl; assumption) | exact PEv.cut2 rfl rfl rfl rfl (by omega) (by omega) (by omega) (by omega))) ?_ | refine GL.store ?_ | refine GL.storeN ?_ | refine GL.boxA (fun g => ?_) | refine GL.box1 (fun g => ?_) | refine GL.alloc1 (fun g => ?_) | refine GL.allocA (fun g => ?_) | refine GL.no ?_) | ((with_reducible show G _ _ _ (Item.code (Code.cond _ _ _) :: _) _ _ _); first | refine G.condT rfl ?_ | refine G.condF rfl ?_ | refine G.condYes rfl (by omega) ?_ | refine G.condNo rfl (by omega) ?_) | (with_reducible refine G.exit rfl ?_))
      refine G.sub .nil ?_
      refine G.ret1 ok rfl ?_
      exact ⟨rfl, rfl⟩
    | false =>
      repeat (first | (with_reducible refine GL.nil ?_) | (with_reducible refine G.region ?_) | (with_reducible refine G.seq ?_) | (with_reducible refine G.skip ?_) | (with_reducible refine G.block ?_) | (with_reducible refine G.inBlock ?_) | (with_reducible refine G.label ?_) | ((with_reducible show GL _ _ _ _ (_ :: _) _ _ _ _); first | refine GL.p ?_ | refine GL.p (he := by first | (first | exact PEv.eqC rfl rfl rfl rfl | exact PEv.neC rfl rfl rfl rfl | exact PEv.buildA rfl rfl rfl | exact PEv.indexArr rfl rfl rfl (by decide) (by decide) rfl rfl | (apply PEv.string rfl rfl; assumption) | exact PEv.cut2 rfl rfl rfl rfl (by omega) (by omega) (by omega) (by omega))) ?_ | refine GL.store ?_ | refine GL.storeN ?_ | refine GL.boxA (fun g => ?_) | refine GL.box1 (fun g => ?_) | refine GL.alloc1 (fun g => ?_) | refine GL.allocA (fun g => ?_) | refine GL.no ?_) | ((with_reducible show G _ _ _ (Item.code (Code.cond _ _ _) :: _) _ _ _); first | refine G.condT rfl ?_ | refine G.condF rfl ?_ | refine G.condYes rfl (by omega) ?_ | refine G.condNo rfl (by omega) ?_) | (with_reducible refine G.exit rfl ?_))
      by_cases hm : mayP p e q l
      · refine GL.call rfl rfl (bytes_ok p e q t A n c l _ hr hm) .nil fun v s2 h2 hp hle2 => ?_
        obtain ⟨e1, rfl⟩ := hp
        cases e1
        rw [List.nil_append]
        replace hr := hr.le hle2
        replace hr' := hr'.le hle2
        repeat (first | (with_reducible refine GL.nil ?_) | (with_reducible refine G.region ?_) | (with_reducible refine G.seq ?_) | (with_reducible refine G.skip ?_) | (with_reducible refine G.block ?_) | (with_reducible refine G.inBlock ?_) | (with_reducible refine G.label ?_) | ((with_reducible show GL _ _ _ _ (_ :: _) _ _ _ _); first | refine GL.p ?_ | refine GL.p (he := by first | (first | exact PEv.eqC rfl rfl rfl rfl | exact PEv.neC rfl rfl rfl rfl | exact PEv.buildA rfl rfl rfl | exact PEv.indexArr rfl rfl rfl (by decide) (by decide) rfl rfl | (apply PEv.string rfl rfl; assumption) | exact PEv.cut2 rfl rfl rfl rfl (by omega) (by omega) (by omega) (by omega))) ?_ | refine GL.store ?_ | refine GL.storeN ?_ | refine GL.boxA (fun g => ?_) | refine GL.box1 (fun g => ?_) | refine GL.alloc1 (fun g => ?_) | refine GL.allocA (fun g => ?_) | refine GL.no ?_) | ((with_reducible show G _ _ _ (Item.code (Code.cond _ _ _) :: _) _ _ _); first | refine G.condT rfl ?_ | refine G.condF rfl ?_ | refine G.condYes rfl (by omega) ?_ | refine G.condNo rfl (by omega) ?_) | (with_reducible refine G.exit rfl ?_))
        by_cases hm' : mayP p' e' q' l'
        · refine GL.call rfl rfl (bytes_ok p' e' q' t' A' n' c' l' _ hr' hm') .nil fun v s3 h3 hp hle3 => ?_
          obtain ⟨e1, rfl⟩ := hp
          cases e1
          rw [List.nil_append]
          replace hr := hr.le hle3
          replace hr' := hr'.le hle3
          repeat (first | (with_reducible refine GL.nil ?_) | (with_reducible refine G.region ?_) | (with_reducible refine G.seq ?_) | (with_reducible refine G.skip ?_) | (with_reducible refine G.block ?_) | (with_reducible refine G.inBlock ?_) | (with_reducible refine G.label ?_) | ((with_reducible show GL _ _ _ _ (_ :: _) _ _ _ _); first | refine GL.p ?_ | refine GL.p (he := by first | (first | exact PEv.eqC rfl rfl rfl rfl | exact PEv.neC rfl rfl rfl rfl | exact PEv.buildA rfl rfl rfl | exact PEv.indexArr rfl rfl rfl (by decide) (by decide) rfl rfl | (apply PEv.string rfl rfl; assumption) | exact PEv.cut2 rfl rfl rfl rfl (by omega) (by omega) (by omega) (by omega))) ?_ | refine GL.store ?_ | refine GL.storeN ?_ | refine GL.boxA (fun g => ?_) | refine GL.box1 (fun g => ?_) | refine GL.alloc1 (fun g => ?_) | refine GL.allocA (fun g => ?_) | refine GL.no ?_) | ((with_reducible show G _ _ _ (Item.code (Code.cond _ _ _) :: _) _ _ _); first | refine G.condT rfl ?_ | refine G.condF rfl ?_ | refine G.condYes rfl (by omega) ?_ | refine G.condNo rfl (by omega) ?_) | (with_reducible refine G.exit rfl ?_))
          refine G.loop (fun x : Nat => [(2, .pointer (some ⟨g0, 0, none⟩)), (3, .pointer (some ⟨g, 0, none⟩)), (5, .string ⟨(benc p e q t l).toArray⟩), (7, .string ⟨(benc p' e' q' t' l').toArray⟩), (9, .int .i64 x)]) (fun _ => [.blk g0 (.cells [.int .i64 p, .int .i64 e, .int .i64 q, .bool t, .slice A n c].toArray 24 (0, 0)), .blk g (.cells [.int .i64 p', .int .i64 e', .int .i64 q', .bool t', .slice A' n' c'].toArray 24 (0, 0))]) (fun x s' => s' = s3 ∧ x ≤ n) (fun x => n - x) 0 (by ((repeat' (first | exact trivial | refine And.intro ?_ ?_)); all_goals (first | (refine congrArg some (congrArg (Value.int _) ?_); (try dsimp only); omega) | exact rfl))) (by (first | exact Split.refl _ | ((try dsimp only); repeat (first | exact Split.nil | (apply Split.cons; (repeat (first | exact Pick.head | apply Pick.tail))))))) ⟨rfl, by omega⟩ ?_
          rintro i s4 ⟨hs4, hi⟩ ih
          subst s4
          by_cases hlt : i < n
          · obtain ⟨hp1, hp2, hp3, hp4, hp5⟩ := id hm
            have hf : fitsR (l[i]'(by omega)) = true := List.all_eq_true.1 hp5 _ (List.getElem_mem _)
            have hcut : Rs s3 (A.map (·.add (i * 2))) 1 (c - i) [l[i]'(by omega)] := by
              have h5 := hr.cut i (i + 1) (by omega) (by omega)
              have h6 : ((rcells l).drop (i * 2)).take ((i + 1 - i) * 2) = rcells [l[i]'(by omega)] := by
                have h7 := (rcells_at l i (by omega)).1
                rw [Int.toNat_natCast] at h7
                rw [show (i + 1 - i) * 2 = 2 from by omega, h7]
                rfl
              rw [h6, show i + 1 - i = 1 from by omega] at h5
              exact h5
            generalize l[i]'(by omega) = r at hcut hf
            have hmr : mayP p e (q + i) [r] := ⟨hp1, hp2, by simp, by simp; omega, by simpa using hf⟩
            repeat (first | (with_reducible refine GL.nil ?_) | (with_reducible refine G.region ?_) | (with_reducible refine G.seq ?_) | (with_reducible refine G.skip ?_) | (with_reducible refine G.block ?_) | (with_reducible refine G.inBlock ?_) | (with_reducible refine G.label ?_) | ((with_reducible show GL _ _ _ _ (_ :: _) _ _ _ _); first | refine GL.p ?_ | refine GL.p (he := by first | (first | exact PEv.eqC rfl rfl rfl rfl | exact PEv.neC rfl rfl rfl rfl | exact PEv.buildA rfl rfl rfl | exact PEv.indexArr rfl rfl rfl (by decide) (by decide) rfl rfl | (apply PEv.string rfl rfl; assumption) | exact PEv.cut2 rfl rfl rfl rfl (by omega) (by omega) (by omega) (by omega))) ?_ | refine GL.store ?_ | refine GL.storeN ?_ | refine GL.boxA (fun g => ?_) | refine GL.box1 (fun g => ?_) | refine GL.alloc1 (fun g => ?_) | refine GL.allocA (fun g => ?_) | refine GL.no ?_) | ((with_reducible show G _ _ _ (Item.code (Code.cond _ _ _) :: _) _ _ _); first | refine G.condT rfl ?_ | refine G.condF rfl ?_ | refine G.condYes rfl (by omega) ?_ | refine G.condNo rfl (by omega) ?_) | (with_reducible refine G.exit rfl ?_))
            rw [show ((i : Int) + 1).toNat - (i : Int).toNat = 1 from by omega, Int.toNat_natCast]
            refine G.draw0 (m := 11) #[false, false, false, false, false, false, false, false, false, false, false] follows_mixed ?_
            (first | refine GD.p 0 #[true, false, false, false, false, false, false, false, false, false, false] ?_ | refine GD.no 0 #[true, false, false, false, false, false, false, false, false, false, false] ?_)
            refine GD.call 1 #[true, true, false, false, false, false, false, false, false, false, false] rfl rfl rfl (may_calls p e (q + i) t _ 1 (c - i) [r] _ hcut) .nil (fun v s2 h2 hp hle2 => ?_) (fun v s2 h2 hp => ?_)
            rotate_left
            · obtain ⟨e1, h3, rfl⟩ := hp
              exact ⟨_, Split.refl _⟩
            obtain ⟨e1, h3, rfl⟩ := hp
            subst s2
            cases e1
            rw [List.nil_append, decide_eq_true hmr]
            (first | refine GD.p 2 #[true, true, true, false, false, false, false, false, false, false, false] ?_ | refine GD.no 2 #[true, true, true, false, false, false, false, false, false, false, false] ?_); (first | refine GD.p 3 #[true, true, true, true, false, false, false, false, false, false, false] ?_ | refine GD.no 3 #[true, true, true, true, false, false, false, false, false, false, false] ?_); (first | refine GD.p 4 #[true, true, true, true, true, false, false, false, false, false, false] ?_ | refine GD.no 4 #[true, true, true, true, true, false, false, false, false, false, false] ?_); (first | refine GD.p 6 #[true, true, true, true, true, false, true, false, false, false, false] ?_ | refine GD.no 6 #[true, true, true, true, true, false, true, false, false, false, false] ?_); (first | refine GD.p 7 #[true, true, true, true, true, false, true, true, false, false, false] ?_ | refine GD.no 7 #[true, true, true, true, true, false, true, true, false, false, false] ?_); (first | refine GD.p 8 #[true, true, true, true, true, false, true, true, true, false, false] ?_ | refine GD.no 8 #[true, true, true, true, true, false, true, true, true, false, false] ?_)
            refine GD.call 5 #[true, true, true, true, true, true, true, true, true, false, false] rfl rfl rfl (behind_calls p e (q + i) t _ 1 (c - i) _ (by omega) (by omega)) .nil (fun v s2 h2 hp hle2 => ?_) (fun v s2 h2 hp => ?_)
            rotate_left
            · obtain ⟨e1, h3, rfl⟩ := hp
              exact ⟨_, Split.refl _⟩
            obtain ⟨e1, h3, rfl⟩ := hp
            subst s2
            cases e1
            rw [List.nil_append]
            (first | refine GD.p 9 #[true, true, true, true, true, true, true, true, true, true, false] ?_ | refine GD.no 9 #[true, true, true, true, true, true, true, true, true, true, false] ?_); (first | refine GD.p 10 #[true, true, true, true, true, true, true, true, true, true, true] ?_ | refine GD.no 10 #[true, true, true, true, true, true, true, true, true, true, true] ?_)
            refine GD.nil ?_
            repeat (first | (with_reducible refine GL.nil ?_) | (with_reducible refine G.region ?_) | (with_reducible refine G.seq ?_) | (with_reducible refine G.skip ?_) | (with_reducible refine G.block ?_) | (with_reducible refine G.inBlock ?_) | (with_reducible refine G.label ?_) | ((with_reducible show GL _ _ _ _ (_ :: _) _ _ _ _); first | refine GL.p ?_ | refine GL.p (he := by first | (first | exact PEv.eqC rfl rfl rfl rfl | exact PEv.neC rfl rfl rfl rfl | exact PEv.buildA rfl rfl rfl | exact PEv.indexArr rfl rfl rfl (by decide) (by decide) rfl rfl | (apply PEv.string rfl rfl; assumption) | exact PEv.cut2 rfl rfl rfl rfl (by omega) (by omega) (by omega) (by omega))) ?_ | refine GL.store ?_ | refine GL.storeN ?_ | refine GL.boxA (fun g => ?_) | refine GL.box1 (fun g => ?_) | refine GL.alloc1 (fun g => ?_) | refine GL.allocA (fun g => ?_) | refine GL.no ?_) | ((with_reducible show G _ _ _ (Item.code (Code.cond _ _ _) :: _) _ _ _); first | refine G.condT rfl ?_ | refine G.condF rfl ?_ | refine G.condYes rfl (by omega) ?_ | refine G.condNo rfl (by omega) ?_) | (with_reducible refine G.exit rfl ?_))
            exact ih (i + 1) _ _ _ _ (by ((repeat' (first | exact trivial | refine And.intro ?_ ?_)); all_goals (first | (refine congrArg some (congrArg (Value.int _) ?_); (try dsimp only); omega) | exact rfl))) (by (first | exact Split.refl _ | ((try dsimp only); repeat (first | exact Split.nil | (apply Split.cons; (repeat (first | exact Pick.head | apply Pick.tail))))))) ⟨rfl, hlt⟩ (by omega)
          · obtain rfl : i = n := by omega
            repeat (first | (with_reducible refine GL.nil ?_) | (with_reducible refine G.region ?_) | (with_reducible refine G.seq ?_) | (with_reducible refine G.skip ?_) | (with_reducible refine G.block ?_) | (with_reducible refine G.inBlock ?_) | (with_reducible refine G.label ?_) | ((with_reducible show GL _ _ _ _ (_ :: _) _ _ _ _); first | refine GL.p ?_ | refine GL.p (he := by first | (first | exact PEv.eqC rfl rfl rfl rfl | exact PEv.neC rfl rfl rfl rfl | exact PEv.buildA rfl rfl rfl | exact PEv.indexArr rfl rfl rfl (by decide) (by decide) rfl rfl | (apply PEv.string rfl rfl; assumption) | exact PEv.cut2 rfl rfl rfl rfl (by omega) (by omega) (by omega) (by omega))) ?_ | refine GL.store ?_ | refine GL.storeN ?_ | refine GL.boxA (fun g => ?_) | refine GL.box1 (fun g => ?_) | refine GL.alloc1 (fun g => ?_) | refine GL.allocA (fun g => ?_) | refine GL.no ?_) | ((with_reducible show G _ _ _ (Item.code (Code.cond _ _ _) :: _) _ _ _); first | refine G.condT rfl ?_ | refine G.condF rfl ?_ | refine G.condYes rfl (by omega) ?_ | refine G.condNo rfl (by omega) ?_) | (with_reducible refine G.exit rfl ?_))
            refine GL.call rfl rfl (same_calls p e q t A _ c l p' e' q' t' A' n' c' l' _ hr hr') .nil fun v s1 h1 hp hle => ?_; obtain ⟨e1, hs1, rfl⟩ := hp; subst s1; cases e1; rw [List.nil_append]
            rw [same_bytes hm hm']
            repeat (first | (with_reducible refine GL.nil ?_) | (with_reducible refine G.region ?_) | (with_reducible refine G.seq ?_) | (with_reducible refine G.skip ?_) | (with_reducible refine G.block ?_) | (with_reducible refine G.inBlock ?_) | (with_reducible refine G.label ?_) | ((with_reducible show GL _ _ _ _ (_ :: _) _ _ _ _); first | refine GL.p ?_ | refine GL.p (he := by first | (first | exact PEv.eqC rfl rfl rfl rfl | exact PEv.neC rfl rfl rfl rfl | exact PEv.buildA rfl rfl rfl | exact PEv.indexArr rfl rfl rfl (by decide) (by decide) rfl rfl | (apply PEv.string rfl rfl; assumption) | exact PEv.cut2 rfl rfl rfl rfl (by omega) (by omega) (by omega) (by omega))) ?_ | refine GL.store ?_ | refine GL.storeN ?_ | refine GL.boxA (fun g => ?_) | refine GL.box1 (fun g => ?_) | refine GL.alloc1 (fun g => ?_) | refine GL.allocA (fun g => ?_) | refine GL.no ?_) | ((with_reducible show G _ _ _ (Item.code (Code.cond _ _ _) :: _) _ _ _); first | refine G.condT rfl ?_ | refine G.condF rfl ?_ | refine G.condYes rfl (by omega) ?_ | refine G.condNo rfl (by omega) ?_) | (with_reducible refine G.exit rfl ?_))
            refine GL.call rfl rfl (wakes6_calls _) .nil fun v s2 h2 hp hle2 => ?_
            obtain ⟨e1, rfl⟩ := hp
            cases e1
            repeat (first | (with_reducible refine GL.nil ?_) | (with_reducible refine G.region ?_) | (with_reducible refine G.seq ?_) | (with_reducible refine G.skip ?_) | (with_reducible refine G.block ?_) | (with_reducible refine G.inBlock ?_) | (with_reducible refine G.label ?_) | ((with_reducible show GL _ _ _ _ (_ :: _) _ _ _ _); first | refine GL.p ?_ | refine GL.p (he := by first | (first | exact PEv.eqC rfl rfl rfl rfl | exact PEv.neC rfl rfl rfl rfl | exact PEv.buildA rfl rfl rfl | exact PEv.indexArr rfl rfl rfl (by decide) (by decide) rfl rfl | (apply PEv.string rfl rfl; assumption) | exact PEv.cut2 rfl rfl rfl rfl (by omega) (by omega) (by omega) (by omega))) ?_ | refine GL.store ?_ | refine GL.storeN ?_ | refine GL.boxA (fun g => ?_) | refine GL.box1 (fun g => ?_) | refine GL.alloc1 (fun g => ?_) | refine GL.allocA (fun g => ?_) | refine GL.no ?_) | ((with_reducible show G _ _ _ (Item.code (Code.cond _ _ _) :: _) _ _ _); first | refine G.condT rfl ?_ | refine G.condF rfl ?_ | refine G.condYes rfl (by omega) ?_ | refine G.condNo rfl (by omega) ?_) | (with_reducible refine G.exit rfl ?_))
            refine G.sub .nil ?_
            refine G.ret1 ok rfl ?_
            exact ⟨rfl, rfl⟩
        · refine GL.call rfl rfl (bytes_no p' e' q' t' A' n' c' l' _ hr' hm') .nil fun v s3 h3 hp hle3 => ?_
          obtain ⟨e1, rfl⟩ := hp
          cases e1
          rw [List.nil_append]
          repeat (first | (with_reducible refine GL.nil ?_) | (with_reducible refine G.region ?_) | (with_reducible refine G.seq ?_) | (with_reducible refine G.skip ?_) | (with_reducible refine G.block ?_) | (with_reducible refine G.inBlock ?_) | (with_reducible refine G.label ?_) | ((with_reducible show GL _ _ _ _ (_ :: _) _ _ _ _); first | refine GL.p ?_ | refine GL.p (he := by first | (first | exact PEv.eqC rfl rfl rfl rfl | exact PEv.neC rfl rfl rfl rfl | exact PEv.buildA rfl rfl rfl | exact PEv.indexArr rfl rfl rfl (by decide) (by decide) rfl rfl | (apply PEv.string rfl rfl; assumption) | exact PEv.cut2 rfl rfl rfl rfl (by omega) (by omega) (by omega) (by omega))) ?_ | refine GL.store ?_ | refine GL.storeN ?_ | refine GL.boxA (fun g => ?_) | refine GL.box1 (fun g => ?_) | refine GL.alloc1 (fun g => ?_) | refine GL.allocA (fun g => ?_) | refine GL.no ?_) | ((with_reducible show G _ _ _ (Item.code (Code.cond _ _ _) :: _) _ _ _); first | refine G.condT rfl ?_ | refine G.condF rfl ?_ | refine G.condYes rfl (by omega) ?_ | refine G.condNo rfl (by omega) ?_) | (with_reducible refine G.exit rfl ?_))
          refine GL.call rfl rfl (wakes6_calls _) .nil fun v s2 h2 hp hle2 => ?_
          obtain ⟨e1, rfl⟩ := hp
          cases e1
          repeat (first | (with_reducible refine GL.nil ?_) | (with_reducible refine G.region ?_) | (with_reducible refine G.seq ?_) | (with_reducible refine G.skip ?_) | (with_reducible refine G.block ?_) | (with_reducible refine G.inBlock ?_) | (with_reducible refine G.label ?_) | ((with_reducible show GL _ _ _ _ (_ :: _) _ _ _ _); first | refine GL.p ?_ | refine GL.p (he := by first | (first | exact PEv.eqC rfl rfl rfl rfl | exact PEv.neC rfl rfl rfl rfl | exact PEv.buildA rfl rfl rfl | exact PEv.indexArr rfl rfl rfl (by decide) (by decide) rfl rfl | (apply PEv.string rfl rfl; assumption) | exact PEv.cut2 rfl rfl rfl rfl (by omega) (by omega) (by omega) (by omega))) ?_ | refine GL.store ?_ | refine GL.storeN ?_ | refine GL.boxA (fun g => ?_) | refine GL.box1 (fun g => ?_) | refine GL.alloc1 (fun g => ?_) | refine GL.allocA (fun g => ?_) | refine GL.no ?_) | ((with_reducible show G _ _ _ (Item.code (Code.cond _ _ _) :: _) _ _ _); first | refine G.condT rfl ?_ | refine G.condF rfl ?_ | refine G.condYes rfl (by omega) ?_ | refine G.condNo rfl (by omega) ?_) | (with_reducible refine G.exit rfl ?_))
          refine G.sub .nil ?_
          refine G.ret1 ok rfl ?_
          exact ⟨rfl, rfl⟩
      · refine GL.call rfl rfl (bytes_no p e q t A n c l _ hr hm) .nil fun v s2 h2 hp hle2 => ?_
        obtain ⟨e1, rfl⟩ := hp
        cases e1
        rw [List.nil_append]
        replace hr := hr.le hle2
        replace hr' := hr'.le hle2
        repeat (first | (with_reducible refine GL.nil ?_) | (with_reducible refine G.region ?_) | (with_reducible refine G.seq ?_) | (with_reducible refine G.skip ?_) | (with_reducible refine G.block ?_) | (with_reducible refine G.inBlock ?_) | (with_reducible refine G.label ?_) | ((with_reducible show GL _ _ _ _ (_ :: _) _ _ _ _); first | refine GL.p ?_ | refine GL.p (he := by first | (first | exact PEv.eqC rfl rfl rfl rfl | exact PEv.neC rfl rfl rfl rfl | exact PEv.buildA rfl rfl rfl | exact PEv.indexArr rfl rfl rfl (by decide) (by decide) rfl rfl | (apply PEv.string rfl rfl; assumption) | exact PEv.cut2 rfl rfl rfl rfl (by omega) (by omega) (by omega) (by omega))) ?_ | refine GL.store ?_ | refine GL.storeN ?_ | refine GL.boxA (fun g => ?_) | refine GL.box1 (fun g => ?_) | refine GL.alloc1 (fun g => ?_) | refine GL.allocA (fun g => ?_) | refine GL.no ?_) | ((with_reducible show G _ _ _ (Item.code (Code.cond _ _ _) :: _) _ _ _); first | refine G.condT rfl ?_ | refine G.condF rfl ?_ | refine G.condYes rfl (by omega) ?_ | refine G.condNo rfl (by omega) ?_) | (with_reducible refine G.exit rfl ?_))
        by_cases hm' : mayP p' e' q' l'
        · refine GL.call rfl rfl (bytes_ok p' e' q' t' A' n' c' l' _ hr' hm') .nil fun v s3 h3 hp hle3 => ?_
          obtain ⟨e1, rfl⟩ := hp
          cases e1
          rw [List.nil_append]
          repeat (first | (with_reducible refine GL.nil ?_) | (with_reducible refine G.region ?_) | (with_reducible refine G.seq ?_) | (with_reducible refine G.skip ?_) | (with_reducible refine G.block ?_) | (with_reducible refine G.inBlock ?_) | (with_reducible refine G.label ?_) | ((with_reducible show GL _ _ _ _ (_ :: _) _ _ _ _); first | refine GL.p ?_ | refine GL.p (he := by first | (first | exact PEv.eqC rfl rfl rfl rfl | exact PEv.neC rfl rfl rfl rfl | exact PEv.buildA rfl rfl rfl | exact PEv.indexArr rfl rfl rfl (by decide) (by decide) rfl rfl | (apply PEv.string rfl rfl; assumption) | exact PEv.cut2 rfl rfl rfl rfl (by omega) (by omega) (by omega) (by omega))) ?_ | refine GL.store ?_ | refine GL.storeN ?_ | refine GL.boxA (fun g => ?_) | refine GL.box1 (fun g => ?_) | refine GL.alloc1 (fun g => ?_) | refine GL.allocA (fun g => ?_) | refine GL.no ?_) | ((with_reducible show G _ _ _ (Item.code (Code.cond _ _ _) :: _) _ _ _); first | refine G.condT rfl ?_ | refine G.condF rfl ?_ | refine G.condYes rfl (by omega) ?_ | refine G.condNo rfl (by omega) ?_) | (with_reducible refine G.exit rfl ?_))
          refine GL.call rfl rfl (wakes6_calls _) .nil fun v s2 h2 hp hle2 => ?_
          obtain ⟨e1, rfl⟩ := hp
          cases e1
          repeat (first | (with_reducible refine GL.nil ?_) | (with_reducible refine G.region ?_) | (with_reducible refine G.seq ?_) | (with_reducible refine G.skip ?_) | (with_reducible refine G.block ?_) | (with_reducible refine G.inBlock ?_) | (with_reducible refine G.label ?_) | ((with_reducible show GL _ _ _ _ (_ :: _) _ _ _ _); first | refine GL.p ?_ | refine GL.p (he := by first | (first | exact PEv.eqC rfl rfl rfl rfl | exact PEv.neC rfl rfl rfl rfl | exact PEv.buildA rfl rfl rfl | exact PEv.indexArr rfl rfl rfl (by decide) (by decide) rfl rfl | (apply PEv.string rfl rfl; assumption) | exact PEv.cut2 rfl rfl rfl rfl (by omega) (by omega) (by omega) (by omega))) ?_ | refine GL.store ?_ | refine GL.storeN ?_ | refine GL.boxA (fun g => ?_) | refine GL.box1 (fun g => ?_) | refine GL.alloc1 (fun g => ?_) | refine GL.allocA (fun g => ?_) | refine GL.no ?_) | ((with_reducible show G _ _ _ (Item.code (Code.cond _ _ _) :: _) _ _ _); first | refine G.condT rfl ?_ | refine G.condF rfl ?_ | refine G.condYes rfl (by omega) ?_ | refine G.condNo rfl (by omega) ?_) | (with_reducible refine G.exit rfl ?_))
          refine G.sub .nil ?_
          refine G.ret1 ok rfl ?_
          exact ⟨rfl, rfl⟩
        · refine GL.call rfl rfl (bytes_no p' e' q' t' A' n' c' l' _ hr' hm') .nil fun v s3 h3 hp hle3 => ?_
          obtain ⟨e1, rfl⟩ := hp
          cases e1
          rw [List.nil_append]
          repeat (first | (with_reducible refine GL.nil ?_) | (with_reducible refine G.region ?_) | (with_reducible refine G.seq ?_) | (with_reducible refine G.skip ?_) | (with_reducible refine G.block ?_) | (with_reducible refine G.inBlock ?_) | (with_reducible refine G.label ?_) | ((with_reducible show GL _ _ _ _ (_ :: _) _ _ _ _); first | refine GL.p ?_ | refine GL.p (he := by first | (first | exact PEv.eqC rfl rfl rfl rfl | exact PEv.neC rfl rfl rfl rfl | exact PEv.buildA rfl rfl rfl | exact PEv.indexArr rfl rfl rfl (by decide) (by decide) rfl rfl | (apply PEv.string rfl rfl; assumption) | exact PEv.cut2 rfl rfl rfl rfl (by omega) (by omega) (by omega) (by omega))) ?_ | refine GL.store ?_ | refine GL.storeN ?_ | refine GL.boxA (fun g => ?_) | refine GL.box1 (fun g => ?_) | refine GL.alloc1 (fun g => ?_) | refine GL.allocA (fun g => ?_) | refine GL.no ?_) | ((with_reducible show G _ _ _ (Item.code (Code.cond _ _ _) :: _) _ _ _); first | refine G.condT rfl ?_ | refine G.condF rfl ?_ | refine G.condYes rfl (by omega) ?_ | refine G.condNo rfl (by omega) ?_) | (with_reducible refine G.exit rfl ?_))
          refine GL.call rfl rfl (wakes6_calls _) .nil fun v s2 h2 hp hle2 => ?_
          obtain ⟨e1, rfl⟩ := hp
          cases e1
          repeat (first | (with_reducible refine GL.nil ?_) | (with_reducible refine G.region ?_) | (with_reducible refine G.seq ?_) | (with_reducible refine G.skip ?_) | (with_reducible refine G.block ?_) | (with_reducible refine G.inBlock ?_) | (with_reducible refine G.label ?_) | ((with_reducible show GL _ _ _ _ (_ :: _) _ _ _ _); first | refine GL.p ?_ | refine GL.p (he := by first | (first | exact PEv.eqC rfl rfl rfl rfl | exact PEv.neC rfl rfl rfl rfl | exact PEv.buildA rfl rfl rfl | exact PEv.indexArr rfl rfl rfl (by decide) (by decide) rfl rfl | (apply PEv.string rfl rfl; assumption) | exact PEv.cut2 rfl rfl rfl rfl (by omega) (by omega) (by omega) (by omega))) ?_ | refine GL.store ?_ | refine GL.storeN ?_ | refine GL.boxA (fun g => ?_) | refine GL.box1 (fun g => ?_) | refine GL.alloc1 (fun g => ?_) | refine GL.allocA (fun g => ?_) | refine GL.no ?_) | ((with_reducible show G _ _ _ (Item.code (Code.cond _ _ _) :: _) _ _ _); first | refine G.condT rfl ?_ | refine G.condF rfl ?_ | refine G.condYes rfl (by omega) ?_ | refine G.condNo rfl (by omega) ?_) | (with_reducible refine G.exit rfl ?_))
          refine G.sub .nil ?_
          refine G.ret1 ok rfl ?_
          exact ⟨rfl, rfl⟩
end Go.Proofs.Ytgggcfhmcelioaa
