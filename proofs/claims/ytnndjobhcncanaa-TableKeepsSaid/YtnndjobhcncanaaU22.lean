/- TableBytes: the walk. -/
import Derived.Test.YtnndjobhcncanaaU21
namespace Go.Proofs.Ytnndjobhcncanaa
open Go.RowKit
theorem ReadIs.same {z : ByteArray} {l l' : List TabD} {e e' : Int} (h : ReadIs z l e) (h' : ReadIs z l' e') : l.map TabD.con = l'.map TabD.con ∧ e = e' := by
  rcases h with ⟨h0, h1, rfl⟩ | ⟨h0, rfl, rfl⟩ <;> rcases h' with ⟨g0, g1, rfl⟩ | ⟨g0, rfl, rfl⟩ <;> first | exact ⟨h1.trans g1.symm, rfl⟩ | exact ⟨rfl, rfl⟩ | exact absurd h0 g0 | exact absurd g0 h0
theorem ReadIs.len {z : ByteArray} {l : List TabD} {e : Int} (h : ReadIs z l e) : l.length ≤ 3 := by
  rcases h with ⟨_, h, _⟩ | ⟨_, rfl, _⟩
  · have := congrArg List.length h
    simp [rdS] at this
    omega
  · simp
theorem con_same {t u : TabD} (h : t.con = u.con) : t.same u := by
  simp only [TabD.con, Prod.mk.injEq] at h
  exact ⟨h.1, h.2.1, h.2.2⟩
set_option maxRecDepth 20000 in
set_option maxHeartbeats 32000000 in
theorem tbytes_calls (hd : Hd) (l : List TabD) (z : ByteArray) (s : Store) (hx : Ts s hd l) : Fn Try.prog 9 #[.slice hd.A hd.n hd.c, .string z] s [] (fun e _ h' => e = .returned (.bool true) ∧ h' = []) := by
  have hl := hx.len
  refine Fn.intro (args := [.slice hd.A hd.n hd.c, .string z]) Try.func9 rfl Try.ntmps9 (Nat.le_of_ble_eq_true rfl) (fun C ok hh => ?_)
  by_cases h0 : 10 < (hd.n : Int)
  · ((repeat (first | (with_reducible first | refine GL.nil ?_ | refine G.region ?_ | refine G.seq ?_ | refine G.skip ?_ | refine G.block ?_ | refine G.inBlock ?_ | refine G.label ?_) | ((with_reducible show GL _ _ _ _ (_ :: _) _ _ _ _); first | refine GL.p ?_ | refine GL.pK ?_ | refine GL.store ?_ | refine GL.storeN ?_ | refine GL.boxA (fun g => ?_) | refine GL.box1 (fun g => ?_) | refine GL.alloc1 rfl (fun g => ?_) | refine GL.allocA (fun g => ?_) | refine GL.no ?_) | ((with_reducible show G _ _ _ (Item.code (Code.cond _ _ _) :: _) _ _ _); first | refine G.condT rfl ?_ | refine G.condF rfl ?_ | refine G.condYes rfl (by omega) ?_ | refine G.condNo rfl (by omega) ?_) | (with_reducible refine G.exit rfl ?_))); refine GL.call rfl rfl (wakes23_calls _) .nil fun v sw hw' hq hlew => ?_; obtain ⟨e1, rfl⟩ := hq; cases e1; rw [List.nil_append]; (repeat (first | (with_reducible first | refine GL.nil ?_ | refine G.region ?_ | refine G.seq ?_ | refine G.skip ?_ | refine G.block ?_ | refine G.inBlock ?_ | refine G.label ?_) | ((with_reducible show GL _ _ _ _ (_ :: _) _ _ _ _); first | refine GL.p ?_ | refine GL.pK ?_ | refine GL.store ?_ | refine GL.storeN ?_ | refine GL.boxA (fun g => ?_) | refine GL.box1 (fun g => ?_) | refine GL.alloc1 rfl (fun g => ?_) | refine GL.allocA (fun g => ?_) | refine GL.no ?_) | ((with_reducible show G _ _ _ (Item.code (Code.cond _ _ _) :: _) _ _ _); first | refine G.condT rfl ?_ | refine G.condF rfl ?_ | refine G.condYes rfl (by omega) ?_ | refine G.condNo rfl (by omega) ?_) | (with_reducible refine G.exit rfl ?_))); refine G.sub .nil ?_; refine G.ret1 ok rfl ?_; exact ⟨rfl, rfl⟩)
  by_cases h1 : 2000 < (z.size : Int)
  · ((repeat (first | (with_reducible first | refine GL.nil ?_ | refine G.region ?_ | refine G.seq ?_ | refine G.skip ?_ | refine G.block ?_ | refine G.inBlock ?_ | refine G.label ?_) | ((with_reducible show GL _ _ _ _ (_ :: _) _ _ _ _); first | refine GL.p ?_ | refine GL.pK ?_ | refine GL.store ?_ | refine GL.storeN ?_ | refine GL.boxA (fun g => ?_) | refine GL.box1 (fun g => ?_) | refine GL.alloc1 rfl (fun g => ?_) | refine GL.allocA (fun g => ?_) | refine GL.no ?_) | ((with_reducible show G _ _ _ (Item.code (Code.cond _ _ _) :: _) _ _ _); first | refine G.condT rfl ?_ | refine G.condF rfl ?_ | refine G.condYes rfl (by omega) ?_ | refine G.condNo rfl (by omega) ?_) | (with_reducible refine G.exit rfl ?_))); refine GL.call rfl rfl (wakes23_calls _) .nil fun v sw hw' hq hlew => ?_; obtain ⟨e1, rfl⟩ := hq; cases e1; rw [List.nil_append]; (repeat (first | (with_reducible first | refine GL.nil ?_ | refine G.region ?_ | refine G.seq ?_ | refine G.skip ?_ | refine G.block ?_ | refine G.inBlock ?_ | refine G.label ?_) | ((with_reducible show GL _ _ _ _ (_ :: _) _ _ _ _); first | refine GL.p ?_ | refine GL.pK ?_ | refine GL.store ?_ | refine GL.storeN ?_ | refine GL.boxA (fun g => ?_) | refine GL.box1 (fun g => ?_) | refine GL.alloc1 rfl (fun g => ?_) | refine GL.allocA (fun g => ?_) | refine GL.no ?_) | ((with_reducible show G _ _ _ (Item.code (Code.cond _ _ _) :: _) _ _ _); first | refine G.condT rfl ?_ | refine G.condF rfl ?_ | refine G.condYes rfl (by omega) ?_ | refine G.condNo rfl (by omega) ?_) | (with_reducible refine G.exit rfl ?_))); refine G.sub .nil ?_; refine G.ret1 ok rfl ?_; exact ⟨rfl, rfl⟩)
  repeat (first | (with_reducible first | refine GL.nil ?_ | refine G.region ?_ | refine G.seq ?_ | refine G.skip ?_ | refine G.block ?_ | refine G.inBlock ?_ | refine G.label ?_) | ((with_reducible show GL _ _ _ _ (_ :: _) _ _ _ _); first | refine GL.p ?_ | refine GL.pK ?_ | refine GL.store ?_ | refine GL.storeN ?_ | refine GL.boxA (fun g => ?_) | refine GL.box1 (fun g => ?_) | refine GL.alloc1 rfl (fun g => ?_) | refine GL.allocA (fun g => ?_) | refine GL.no ?_) | ((with_reducible show G _ _ _ (Item.code (Code.cond _ _ _) :: _) _ _ _); first | refine G.condT rfl ?_ | refine G.condF rfl ?_ | refine G.condYes rfl (by omega) ?_ | refine G.condNo rfl (by omega) ?_) | (with_reducible refine G.exit rfl ?_))
  refine G.loop (fun i : Nat => [(0, .slice hd.A hd.n hd.c), (1, .string z), (25, .slice hd.A hd.n hd.c), (26, .int .i64 hd.n), (27, .int .i64 i)]) (fun _ => []) (fun i s' => s.le s' ∧ i ≤ hd.n ∧ ∀ t ∈ l.take i, t.h.n ≤ 2000) (fun i => hd.n - i) 0 (by ((repeat' (first | exact trivial | refine And.intro ?_ ?_)); all_goals (first | (refine congrArg some (congrArg (Value.int _) ?_); (try dsimp only); omega) | exact rfl))) .nil ⟨Store.le.refl _, Nat.zero_le _, fun t ht => by simp at ht⟩ ?_
  rintro i s1 ⟨hle1, hi, hsm⟩ ih
  replace hx := hx.le hle1
  have hS := hx.sl
  by_cases hlt : (i : Int) < hd.n
  · have hat := tab_at l i (by omega)
    have htk := List.take_succ_eq_append_getElem (l := l) (i := i) (by omega)
    have hmem : l[i]'(by omega) ∈ l := List.getElem_mem _
    generalize l[i]'(by omega) = t at hat htk hmem
    repeat (first | (with_reducible first | refine GL.nil ?_ | refine G.region ?_ | refine G.seq ?_ | refine G.skip ?_ | refine G.block ?_ | refine G.inBlock ?_ | refine G.label ?_) | ((with_reducible show GL _ _ _ _ (_ :: _) _ _ _ _); first | refine GL.p ?_ | refine GL.pK ?_ | refine GL.store ?_ | refine GL.storeN ?_ | refine GL.boxA (fun g => ?_) | refine GL.box1 (fun g => ?_) | refine GL.alloc1 rfl (fun g => ?_) | refine GL.allocA (fun g => ?_) | refine GL.no ?_) | ((with_reducible show G _ _ _ (Item.code (Code.cond _ _ _) :: _) _ _ _); first | refine G.condT rfl ?_ | refine G.condF rfl ?_ | refine G.condYes rfl (by omega) ?_ | refine G.condNo rfl (by omega) ?_) | (with_reducible refine G.exit rfl ?_))
    refine GL.re 31 t.v ?_
    refine GL.call rfl rfl (tgreat_calls t _) .nil fun v s2 h1' hq hle2 => ?_
    obtain ⟨e1, hs2, rfl⟩ := hq
    subst s2
    cases e1
    rw [List.nil_append]
    by_cases hgr : 600 < (t.h.n : Int)
    · rw [decide_eq_true hgr]
      ((repeat (first | (with_reducible first | refine GL.nil ?_ | refine G.region ?_ | refine G.seq ?_ | refine G.skip ?_ | refine G.block ?_ | refine G.inBlock ?_ | refine G.label ?_) | ((with_reducible show GL _ _ _ _ (_ :: _) _ _ _ _); first | refine GL.p ?_ | refine GL.pK ?_ | refine GL.store ?_ | refine GL.storeN ?_ | refine GL.boxA (fun g => ?_) | refine GL.box1 (fun g => ?_) | refine GL.alloc1 rfl (fun g => ?_) | refine GL.allocA (fun g => ?_) | refine GL.no ?_) | ((with_reducible show G _ _ _ (Item.code (Code.cond _ _ _) :: _) _ _ _); first | refine G.condT rfl ?_ | refine G.condF rfl ?_ | refine G.condYes rfl (by omega) ?_ | refine G.condNo rfl (by omega) ?_) | (with_reducible refine G.exit rfl ?_))); refine GL.call rfl rfl (wakes23_calls _) .nil fun v sw hw' hq hlew => ?_; obtain ⟨e1, rfl⟩ := hq; cases e1; rw [List.nil_append]; (repeat (first | (with_reducible first | refine GL.nil ?_ | refine G.region ?_ | refine G.seq ?_ | refine G.skip ?_ | refine G.block ?_ | refine G.inBlock ?_ | refine G.label ?_) | ((with_reducible show GL _ _ _ _ (_ :: _) _ _ _ _); first | refine GL.p ?_ | refine GL.pK ?_ | refine GL.store ?_ | refine GL.storeN ?_ | refine GL.boxA (fun g => ?_) | refine GL.box1 (fun g => ?_) | refine GL.alloc1 rfl (fun g => ?_) | refine GL.allocA (fun g => ?_) | refine GL.no ?_) | ((with_reducible show G _ _ _ (Item.code (Code.cond _ _ _) :: _) _ _ _); first | refine G.condT rfl ?_ | refine G.condF rfl ?_ | refine G.condYes rfl (by omega) ?_ | refine G.condNo rfl (by omega) ?_) | (with_reducible refine G.exit rfl ?_))); refine G.sub .nil ?_; refine G.ret1 ok rfl ?_; exact ⟨rfl, rfl⟩)
    · rw [decide_eq_false hgr]
      repeat (first | (with_reducible first | refine GL.nil ?_ | refine G.region ?_ | refine G.seq ?_ | refine G.skip ?_ | refine G.block ?_ | refine G.inBlock ?_ | refine G.label ?_) | ((with_reducible show GL _ _ _ _ (_ :: _) _ _ _ _); first | refine GL.p ?_ | refine GL.pK ?_ | refine GL.store ?_ | refine GL.storeN ?_ | refine GL.boxA (fun g => ?_) | refine GL.box1 (fun g => ?_) | refine GL.alloc1 rfl (fun g => ?_) | refine GL.allocA (fun g => ?_) | refine GL.no ?_) | ((with_reducible show G _ _ _ (Item.code (Code.cond _ _ _) :: _) _ _ _); first | refine G.condT rfl ?_ | refine G.condF rfl ?_ | refine G.condYes rfl (by omega) ?_ | refine G.condNo rfl (by omega) ?_) | (with_reducible refine G.exit rfl ?_))
      refine ih (i + 1) _ _ _ _ (by ((repeat' (first | exact trivial | refine And.intro ?_ ?_)); all_goals (first | (refine congrArg some (congrArg (Value.int _) ?_); (try dsimp only); omega) | exact rfl))) .nil ⟨hle1, by omega, fun x hx' => ?_⟩ (by omega)
      rw [htk] at hx'
      rcases List.mem_append.1 hx' with h' | h'
      · exact hsm x h'
      · obtain rfl : x = t := by simpa using h'
        omega
  · rw [List.take_of_length_le (by omega)] at hsm
    repeat (first | (with_reducible first | refine GL.nil ?_ | refine G.region ?_ | refine G.seq ?_ | refine G.skip ?_ | refine G.block ?_ | refine G.inBlock ?_ | refine G.label ?_) | ((with_reducible show GL _ _ _ _ (_ :: _) _ _ _ _); first | refine GL.p ?_ | refine GL.pK ?_ | refine GL.store ?_ | refine GL.storeN ?_ | refine GL.boxA (fun g => ?_) | refine GL.box1 (fun g => ?_) | refine GL.alloc1 rfl (fun g => ?_) | refine GL.allocA (fun g => ?_) | refine GL.no ?_) | ((with_reducible show G _ _ _ (Item.code (Code.cond _ _ _) :: _) _ _ _); first | refine G.condT rfl ?_ | refine G.condF rfl ?_ | refine G.condYes rfl (by omega) ?_ | refine G.condNo rfl (by omega) ?_) | (with_reducible refine G.exit rfl ?_))
    refine GL.call rfl rfl (bytesT_calls hd l _ hx hsm) .nil fun v s2 h1' hq hle2 => ?_
    obtain ⟨z1, x1, e1, hb1, rfl⟩ := hq
    cases e1
    rw [List.nil_append]
    repeat (first | (with_reducible first | refine GL.nil ?_ | refine G.region ?_ | refine G.seq ?_ | refine G.skip ?_ | refine G.block ?_ | refine G.inBlock ?_ | refine G.label ?_) | ((with_reducible show GL _ _ _ _ (_ :: _) _ _ _ _); first | refine GL.p ?_ | refine GL.pK ?_ | refine GL.store ?_ | refine GL.storeN ?_ | refine GL.boxA (fun g => ?_) | refine GL.box1 (fun g => ?_) | refine GL.alloc1 rfl (fun g => ?_) | refine GL.allocA (fun g => ?_) | refine GL.no ?_) | ((with_reducible show G _ _ _ (Item.code (Code.cond _ _ _) :: _) _ _ _); first | refine G.condT rfl ?_ | refine G.condF rfl ?_ | refine G.condYes rfl (by omega) ?_ | refine G.condNo rfl (by omega) ?_) | (with_reducible refine G.exit rfl ?_))
    refine GL.call rfl rfl (bytesTR_calls hd l _ (hx.le hle2) hsm) .nil fun v s3 h1' hq hle3 => ?_
    obtain ⟨z2, x2, e1, hb2, rfl⟩ := hq
    cases e1
    rw [List.nil_append]
    obtain ⟨rfl, rfl⟩ := hb1.same hb2
    repeat (first | (with_reducible first | refine GL.nil ?_ | refine G.region ?_ | refine G.seq ?_ | refine G.skip ?_ | refine G.block ?_ | refine G.inBlock ?_ | refine G.label ?_) | ((with_reducible show GL _ _ _ _ (_ :: _) _ _ _ _); first | refine GL.p ?_ | refine GL.pK ?_ | refine GL.store ?_ | refine GL.storeN ?_ | refine GL.boxA (fun g => ?_) | refine GL.box1 (fun g => ?_) | refine GL.alloc1 rfl (fun g => ?_) | refine GL.allocA (fun g => ?_) | refine GL.no ?_) | ((with_reducible show G _ _ _ (Item.code (Code.cond _ _ _) :: _) _ _ _); first | refine G.condT rfl ?_ | refine G.condF rfl ?_ | refine G.condYes rfl (by omega) ?_ | refine G.condNo rfl (by omega) ?_) | (with_reducible refine G.exit rfl ?_))
    refine GL.call rfl rfl (readT_calls z _ (by omega)) .nil fun v s4 h1' hq hle4 => ?_
    obtain ⟨h3, l3, x3, e1, ht3, hr3, rfl⟩ := hq
    cases e1
    rw [List.nil_append]
    repeat (first | (with_reducible first | refine GL.nil ?_ | refine G.region ?_ | refine G.seq ?_ | refine G.skip ?_ | refine G.block ?_ | refine G.inBlock ?_ | refine G.label ?_) | ((with_reducible show GL _ _ _ _ (_ :: _) _ _ _ _); first | refine GL.p ?_ | refine GL.pK ?_ | refine GL.store ?_ | refine GL.storeN ?_ | refine GL.boxA (fun g => ?_) | refine GL.box1 (fun g => ?_) | refine GL.alloc1 rfl (fun g => ?_) | refine GL.allocA (fun g => ?_) | refine GL.no ?_) | ((with_reducible show G _ _ _ (Item.code (Code.cond _ _ _) :: _) _ _ _); first | refine G.condT rfl ?_ | refine G.condF rfl ?_ | refine G.condYes rfl (by omega) ?_ | refine G.condNo rfl (by omega) ?_) | (with_reducible refine G.exit rfl ?_))
    refine GL.call rfl rfl (readTR_calls z _ (by omega)) .nil fun v s5 h1' hq hle5 => ?_
    obtain ⟨h4, l4, x4, e1, ht4, hr4, rfl⟩ := hq
    cases e1
    rw [List.nil_append]
    obtain ⟨hc, rfl⟩ := hr3.same hr4
    replace ht3 := ht3.le hle5
    have hl3 := ht3.len
    have hl4 := ht4.len
    have hlen3 := hr3.len
    obtain ⟨A4, n4, c4⟩ := h4
    obtain ⟨A3, n3, c3⟩ := h3
    dsimp only at hl3 hl4
    obtain rfl : n3 = n4 := by
      have := congrArg List.length hc
      simp only [List.length_map] at this
      omega
    dsimp only
    repeat (first | (with_reducible first | refine GL.nil ?_ | refine G.region ?_ | refine G.seq ?_ | refine G.skip ?_ | refine G.block ?_ | refine G.inBlock ?_ | refine G.label ?_) | ((with_reducible show GL _ _ _ _ (_ :: _) _ _ _ _); first | refine GL.p ?_ | refine GL.pK ?_ | refine GL.store ?_ | refine GL.storeN ?_ | refine GL.boxA (fun g => ?_) | refine GL.box1 (fun g => ?_) | refine GL.alloc1 rfl (fun g => ?_) | refine GL.allocA (fun g => ?_) | refine GL.no ?_) | ((with_reducible show G _ _ _ (Item.code (Code.cond _ _ _) :: _) _ _ _); first | refine G.condT rfl ?_ | refine G.condF rfl ?_ | refine G.condYes rfl (by omega) ?_ | refine G.condNo rfl (by omega) ?_) | (with_reducible refine G.exit rfl ?_))
    rw [show decide (z1 ≠ z1) = false from decide_eq_false (fun h => h rfl)]
    repeat (first | (with_reducible first | refine GL.nil ?_ | refine G.region ?_ | refine G.seq ?_ | refine G.skip ?_ | refine G.block ?_ | refine G.inBlock ?_ | refine G.label ?_) | ((with_reducible show GL _ _ _ _ (_ :: _) _ _ _ _); first | refine GL.p ?_ | refine GL.pK ?_ | refine GL.store ?_ | refine GL.storeN ?_ | refine GL.boxA (fun g => ?_) | refine GL.box1 (fun g => ?_) | refine GL.alloc1 rfl (fun g => ?_) | refine GL.allocA (fun g => ?_) | refine GL.no ?_) | ((with_reducible show G _ _ _ (Item.code (Code.cond _ _ _) :: _) _ _ _); first | refine G.condT rfl ?_ | refine G.condF rfl ?_ | refine G.condYes rfl (by omega) ?_ | refine G.condNo rfl (by omega) ?_) | (with_reducible refine G.exit rfl ?_))
    refine G.loop (fun i : Nat => [(11, .slice A3 n3 c3), (13, .slice A4 n3 c4), (76, .int .i64 n3), (77, .int .i64 i)]) (fun _ => []) (fun i s' => s5.le s' ∧ i ≤ n3) (fun i => n3 - i) 0 (by ((repeat' (first | exact trivial | refine And.intro ?_ ?_)); all_goals (first | (refine congrArg some (congrArg (Value.int _) ?_); (try dsimp only); omega) | exact rfl))) .nil ⟨Store.le.refl _, Nat.zero_le _⟩ ?_
    rintro j s6 ⟨hle6, hj⟩ ih2
    replace ht3 := ht3.le hle6
    replace ht4 := ht4.le hle6
    have hS3 := ht3.sl
    have hS4 := ht4.sl
    by_cases hlt2 : (j : Int) < n3
    · have hat3 := tab_at l3 j (by omega)
      have hat4 := tab_at l4 j (by omega)
      have hmem3 : l3[j]'(by omega) ∈ l3 := List.getElem_mem _
      have hmem4 : l4[j]'(by omega) ∈ l4 := List.getElem_mem _
      have hcc : (l3[j]'(by omega)).con = (l4[j]'(by omega)).con := by
        have h5 : (l3.map TabD.con)[j]? = (l4.map TabD.con)[j]? := by rw [hc]
        rw [List.getElem?_map, List.getElem?_map, List.getElem?_eq_getElem (by omega), List.getElem?_eq_getElem (by omega)] at h5
        exact Option.some.inj h5
      generalize l3[j]'(by omega) = t at hat3 hmem3 hcc
      generalize l4[j]'(by omega) = u at hat4 hmem4 hcc
      repeat (first | (with_reducible first | refine GL.nil ?_ | refine G.region ?_ | refine G.seq ?_ | refine G.skip ?_ | refine G.block ?_ | refine G.inBlock ?_ | refine G.label ?_) | ((with_reducible show GL _ _ _ _ (_ :: _) _ _ _ _); first | refine GL.p ?_ | refine GL.pK ?_ | refine GL.store ?_ | refine GL.storeN ?_ | refine GL.boxA (fun g => ?_) | refine GL.box1 (fun g => ?_) | refine GL.alloc1 rfl (fun g => ?_) | refine GL.allocA (fun g => ?_) | refine GL.no ?_) | ((with_reducible show G _ _ _ (Item.code (Code.cond _ _ _) :: _) _ _ _); first | refine G.condT rfl ?_ | refine G.condF rfl ?_ | refine G.condYes rfl (by omega) ?_ | refine G.condNo rfl (by omega) ?_) | (with_reducible refine G.exit rfl ?_))
      refine G.draw0 (m := 10) (lay 10 0) follows_mixed ?_
      (first | refine GD.p 0 (lay 10 1) ?_ | refine GD.no 0 (lay 10 1) ?_ | refine GD.pK 0 (lay 10 1) ?_); (first | refine GD.p 1 (lay 10 3) ?_ | refine GD.no 1 (lay 10 3) ?_ | refine GD.pK 1 (lay 10 3) ?_); (first | refine GD.p 2 (lay 10 7) ?_ | refine GD.no 2 (lay 10 7) ?_ | refine GD.pK 2 (lay 10 7) ?_); (first | refine GD.p 3 (lay 10 15) ?_ | refine GD.no 3 (lay 10 15) ?_ | refine GD.pK 3 (lay 10 15) ?_); (first | refine GD.p 4 (lay 10 31) ?_ | refine GD.no 4 (lay 10 31) ?_ | refine GD.pK 4 (lay 10 31) ?_); (first | refine GD.p 5 (lay 10 63) ?_ | refine GD.no 5 (lay 10 63) ?_ | refine GD.pK 5 (lay 10 63) ?_); (first | refine GD.p 6 (lay 10 127) ?_ | refine GD.no 6 (lay 10 127) ?_ | refine GD.pK 6 (lay 10 127) ?_); (first | refine GD.p 7 (lay 10 255) ?_ | refine GD.no 7 (lay 10 255) ?_ | refine GD.pK 7 (lay 10 255) ?_)
      refine GD.call 8 (lay 10 511) rfl rfl rfl (tsameR_calls t u _ (ht3.laid t hmem3) (ht4.laid u hmem4)) .nil (fun v s7 h1' hq hle7 => ?_) (fun v s7 h1' hq => ?_)
      rotate_left
      · obtain ⟨e1, hs7, rfl⟩ := hq
        exact ⟨_, .nil⟩
      obtain ⟨e1, hs7, rfl⟩ := hq
      rw [decide_eq_true (con_same hcc)] at e1
      subst s7
      cases e1
      rw [List.nil_append]
      (first | refine GD.p 9 (lay 10 1023) ?_ | refine GD.no 9 (lay 10 1023) ?_ | refine GD.pK 9 (lay 10 1023) ?_)
      refine GD.nil ?_
      repeat (first | (with_reducible first | refine GL.nil ?_ | refine G.region ?_ | refine G.seq ?_ | refine G.skip ?_ | refine G.block ?_ | refine G.inBlock ?_ | refine G.label ?_) | ((with_reducible show GL _ _ _ _ (_ :: _) _ _ _ _); first | refine GL.p ?_ | refine GL.pK ?_ | refine GL.store ?_ | refine GL.storeN ?_ | refine GL.boxA (fun g => ?_) | refine GL.box1 (fun g => ?_) | refine GL.alloc1 rfl (fun g => ?_) | refine GL.allocA (fun g => ?_) | refine GL.no ?_) | ((with_reducible show G _ _ _ (Item.code (Code.cond _ _ _) :: _) _ _ _); first | refine G.condT rfl ?_ | refine G.condF rfl ?_ | refine G.condYes rfl (by omega) ?_ | refine G.condNo rfl (by omega) ?_) | (with_reducible refine G.exit rfl ?_))
      refine ih2 (j + 1) _ _ _ _ (by ((repeat' (first | exact trivial | refine And.intro ?_ ?_)); all_goals (first | (refine congrArg some (congrArg (Value.int _) ?_); (try dsimp only); omega) | exact rfl))) .nil ⟨hle6, by omega⟩ (by omega)
    · ((repeat (first | (with_reducible first | refine GL.nil ?_ | refine G.region ?_ | refine G.seq ?_ | refine G.skip ?_ | refine G.block ?_ | refine G.inBlock ?_ | refine G.label ?_) | ((with_reducible show GL _ _ _ _ (_ :: _) _ _ _ _); first | refine GL.p ?_ | refine GL.pK ?_ | refine GL.store ?_ | refine GL.storeN ?_ | refine GL.boxA (fun g => ?_) | refine GL.box1 (fun g => ?_) | refine GL.alloc1 rfl (fun g => ?_) | refine GL.allocA (fun g => ?_) | refine GL.no ?_) | ((with_reducible show G _ _ _ (Item.code (Code.cond _ _ _) :: _) _ _ _); first | refine G.condT rfl ?_ | refine G.condF rfl ?_ | refine G.condYes rfl (by omega) ?_ | refine G.condNo rfl (by omega) ?_) | (with_reducible refine G.exit rfl ?_))); refine GL.call rfl rfl (wakes23_calls _) .nil fun v sw hw' hq hlew => ?_; obtain ⟨e1, rfl⟩ := hq; cases e1; rw [List.nil_append]; (repeat (first | (with_reducible first | refine GL.nil ?_ | refine G.region ?_ | refine G.seq ?_ | refine G.skip ?_ | refine G.block ?_ | refine G.inBlock ?_ | refine G.label ?_) | ((with_reducible show GL _ _ _ _ (_ :: _) _ _ _ _); first | refine GL.p ?_ | refine GL.pK ?_ | refine GL.store ?_ | refine GL.storeN ?_ | refine GL.boxA (fun g => ?_) | refine GL.box1 (fun g => ?_) | refine GL.alloc1 rfl (fun g => ?_) | refine GL.allocA (fun g => ?_) | refine GL.no ?_) | ((with_reducible show G _ _ _ (Item.code (Code.cond _ _ _) :: _) _ _ _); first | refine G.condT rfl ?_ | refine G.condF rfl ?_ | refine G.condYes rfl (by omega) ?_ | refine G.condNo rfl (by omega) ?_) | (with_reducible refine G.exit rfl ?_))); refine G.sub .nil ?_; refine G.ret1 ok rfl ?_; exact ⟨rfl, rfl⟩)
end Go.Proofs.Ytnndjobhcncanaa
