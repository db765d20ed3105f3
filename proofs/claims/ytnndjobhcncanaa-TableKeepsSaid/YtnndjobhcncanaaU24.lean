/- TableKeeps: the walk. -/
import Derived.Test.YtnndjobhcncanaaU23
namespace Go.Proofs.Ytnndjobhcncanaa
open Go.RowKit
set_option maxRecDepth 20000 in
set_option maxHeartbeats 32000000 in
theorem tkeeps_calls (hd : Hd) (l : List TabD) (z : ByteArray) (s : Store) (hx : Ts s hd l) : Fn Try.prog 10 #[.slice hd.A hd.n hd.c, .string z] s [] (fun e _ h' => e = .returned (.bool true) ∧ h' = []) := by
  have hl := hx.len
  refine Fn.intro (args := [.slice hd.A hd.n hd.c, .string z]) Try.func10 rfl Try.ntmps10 (Nat.le_of_ble_eq_true rfl) (fun C ok hh => ?_)
  by_cases h0 : 10 < (hd.n : Int)
  · ((repeat (first | (with_reducible first | refine GL.nil ?_ | refine G.region ?_ | refine G.seq ?_ | refine G.skip ?_ | refine G.block ?_ | refine G.inBlock ?_ | refine G.label ?_) | ((with_reducible show GL _ _ _ _ (_ :: _) _ _ _ _); first | refine GL.p ?_ | refine GL.pK ?_ | refine GL.store ?_ | refine GL.storeN ?_ | refine GL.boxA (fun g => ?_) | refine GL.box1 (fun g => ?_) | refine GL.alloc1 rfl (fun g => ?_) | refine GL.allocA (fun g => ?_) | refine GL.no ?_) | ((with_reducible show G _ _ _ (Item.code (Code.cond _ _ _) :: _) _ _ _); first | refine G.condT rfl ?_ | refine G.condF rfl ?_ | refine G.condYes rfl (by omega) ?_ | refine G.condNo rfl (by omega) ?_) | (with_reducible refine G.exit rfl ?_))); refine GL.call rfl rfl (wakes23_calls _) .nil fun v sw hw' hq hlew => ?_; obtain ⟨e1, rfl⟩ := hq; cases e1; rw [List.nil_append]; (repeat (first | (with_reducible first | refine GL.nil ?_ | refine G.region ?_ | refine G.seq ?_ | refine G.skip ?_ | refine G.block ?_ | refine G.inBlock ?_ | refine G.label ?_) | ((with_reducible show GL _ _ _ _ (_ :: _) _ _ _ _); first | refine GL.p ?_ | refine GL.pK ?_ | refine GL.store ?_ | refine GL.storeN ?_ | refine GL.boxA (fun g => ?_) | refine GL.box1 (fun g => ?_) | refine GL.alloc1 rfl (fun g => ?_) | refine GL.allocA (fun g => ?_) | refine GL.no ?_) | ((with_reducible show G _ _ _ (Item.code (Code.cond _ _ _) :: _) _ _ _); first | refine G.condT rfl ?_ | refine G.condF rfl ?_ | refine G.condYes rfl (by omega) ?_ | refine G.condNo rfl (by omega) ?_) | (with_reducible refine G.exit rfl ?_))); refine G.sub .nil ?_; refine G.ret1 ok rfl ?_; exact ⟨rfl, rfl⟩)
  by_cases h1 : 2000 < (z.size : Int)
  · ((repeat (first | (with_reducible first | refine GL.nil ?_ | refine G.region ?_ | refine G.seq ?_ | refine G.skip ?_ | refine G.block ?_ | refine G.inBlock ?_ | refine G.label ?_) | ((with_reducible show GL _ _ _ _ (_ :: _) _ _ _ _); first | refine GL.p ?_ | refine GL.pK ?_ | refine GL.store ?_ | refine GL.storeN ?_ | refine GL.boxA (fun g => ?_) | refine GL.box1 (fun g => ?_) | refine GL.alloc1 rfl (fun g => ?_) | refine GL.allocA (fun g => ?_) | refine GL.no ?_) | ((with_reducible show G _ _ _ (Item.code (Code.cond _ _ _) :: _) _ _ _); first | refine G.condT rfl ?_ | refine G.condF rfl ?_ | refine G.condYes rfl (by omega) ?_ | refine G.condNo rfl (by omega) ?_) | (with_reducible refine G.exit rfl ?_))); refine GL.call rfl rfl (wakes23_calls _) .nil fun v sw hw' hq hlew => ?_; obtain ⟨e1, rfl⟩ := hq; cases e1; rw [List.nil_append]; (repeat (first | (with_reducible first | refine GL.nil ?_ | refine G.region ?_ | refine G.seq ?_ | refine G.skip ?_ | refine G.block ?_ | refine G.inBlock ?_ | refine G.label ?_) | ((with_reducible show GL _ _ _ _ (_ :: _) _ _ _ _); first | refine GL.p ?_ | refine GL.pK ?_ | refine GL.store ?_ | refine GL.storeN ?_ | refine GL.boxA (fun g => ?_) | refine GL.box1 (fun g => ?_) | refine GL.alloc1 rfl (fun g => ?_) | refine GL.allocA (fun g => ?_) | refine GL.no ?_) | ((with_reducible show G _ _ _ (Item.code (Code.cond _ _ _) :: _) _ _ _); first | refine G.condT rfl ?_ | refine G.condF rfl ?_ | refine G.condYes rfl (by omega) ?_ | refine G.condNo rfl (by omega) ?_) | (with_reducible refine G.exit rfl ?_))); refine G.sub .nil ?_; refine G.ret1 ok rfl ?_; exact ⟨rfl, rfl⟩)
  repeat (first | (with_reducible first | refine GL.nil ?_ | refine G.region ?_ | refine G.seq ?_ | refine G.skip ?_ | refine G.block ?_ | refine G.inBlock ?_ | refine G.label ?_) | ((with_reducible show GL _ _ _ _ (_ :: _) _ _ _ _); first | refine GL.p ?_ | refine GL.pK ?_ | refine GL.store ?_ | refine GL.storeN ?_ | refine GL.boxA (fun g => ?_) | refine GL.box1 (fun g => ?_) | refine GL.alloc1 rfl (fun g => ?_) | refine GL.allocA (fun g => ?_) | refine GL.no ?_) | ((with_reducible show G _ _ _ (Item.code (Code.cond _ _ _) :: _) _ _ _); first | refine G.condT rfl ?_ | refine G.condF rfl ?_ | refine G.condYes rfl (by omega) ?_ | refine G.condNo rfl (by omega) ?_) | (with_reducible refine G.exit rfl ?_))
  refine G.loop (fun i : Nat => [(0, .slice hd.A hd.n hd.c), (1, .string z), (25, .slice hd.A hd.n hd.c), (26, .int .i64 hd.n), (27, .int .i64 i)]) (fun _ => []) (fun i s' => s.le s' ∧ i ≤ hd.n ∧ ∀ t ∈ l.take i, t.h.n ≤ 2000) (fun i => hd.n - i) 0 (by ((repeat' (first | exact trivial | refine And.intro ?_ ?_)); all_goals (first | (refine congrArg some (congrArg (Value.int _) ?_); (try dsimp only); omega) | exact rfl))) .nil ⟨Store.le.refl _, Nat.zero_le _, fun t ht => by simp at ht⟩ ?_
  rintro i s1 ⟨hle1, hi, hsm⟩ ih
  replace hx := hx.le hle1
  have hS := hx.sl
  by_cases hlt : (i : Int) < hd.n
  · have hat := tab_at l i (by omega)
    have htk := List.take_succ_eq_append_getElem (l := l) (i := i) (by omega)
    have hmem : l[i]'(by omega) ∈ l := List.getElem_mem _
    generalize l[i]'(by omega) = t at hat htk hmem
    repeat (first | (with_reducible first | refine GL.nil ?_ | refine G.region ?_ | refine G.seq ?_ | refine G.skip ?_ | refine G.block ?_ | refine G.inBlock ?_ | refine G.label ?_) | ((with_reducible show GL _ _ _ _ (_ :: _) _ _ _ _); first | refine GL.p ?_ | refine GL.pK ?_ | refine GL.store ?_ | refine GL.storeN ?_ | refine GL.boxA (fun g => ?_) | refine GL.box1 (fun g => ?_) | refine GL.alloc1 rfl (fun g => ?_) | refine GL.allocA (fun g => ?_) | refine GL.no ?_) | ((with_reducible show G _ _ _ (Item.code (Code.cond _ _ _) :: _) _ _ _); first | refine G.condT rfl ?_ | refine G.condF rfl ?_ | refine G.condYes rfl (by omega) ?_ | refine G.condNo rfl (by omega) ?_) | (with_reducible refine G.exit rfl ?_))
    refine GL.re 31 t.v ?_
    refine GL.call rfl rfl (tgreat_calls t _) .nil fun v s2 h1' hq hle2 => ?_
    obtain ⟨e1, hs2, rfl⟩ := hq
    subst s2
    cases e1
    rw [List.nil_append]
    by_cases hgr : 600 < (t.h.n : Int)
    · rw [decide_eq_true hgr]
      ((repeat (first | (with_reducible first | refine GL.nil ?_ | refine G.region ?_ | refine G.seq ?_ | refine G.skip ?_ | refine G.block ?_ | refine G.inBlock ?_ | refine G.label ?_) | ((with_reducible show GL _ _ _ _ (_ :: _) _ _ _ _); first | refine GL.p ?_ | refine GL.pK ?_ | refine GL.store ?_ | refine GL.storeN ?_ | refine GL.boxA (fun g => ?_) | refine GL.box1 (fun g => ?_) | refine GL.alloc1 rfl (fun g => ?_) | refine GL.allocA (fun g => ?_) | refine GL.no ?_) | ((with_reducible show G _ _ _ (Item.code (Code.cond _ _ _) :: _) _ _ _); first | refine G.condT rfl ?_ | refine G.condF rfl ?_ | refine G.condYes rfl (by omega) ?_ | refine G.condNo rfl (by omega) ?_) | (with_reducible refine G.exit rfl ?_))); refine GL.call rfl rfl (wakes23_calls _) .nil fun v sw hw' hq hlew => ?_; obtain ⟨e1, rfl⟩ := hq; cases e1; rw [List.nil_append]; (repeat (first | (with_reducible first | refine GL.nil ?_ | refine G.region ?_ | refine G.seq ?_ | refine G.skip ?_ | refine G.block ?_ | refine G.inBlock ?_ | refine G.label ?_) | ((with_reducible show GL _ _ _ _ (_ :: _) _ _ _ _); first | refine GL.p ?_ | refine GL.pK ?_ | refine GL.store ?_ | refine GL.storeN ?_ | refine GL.boxA (fun g => ?_) | refine GL.box1 (fun g => ?_) | refine GL.alloc1 rfl (fun g => ?_) | refine GL.allocA (fun g => ?_) | refine GL.no ?_) | ((with_reducible show G _ _ _ (Item.code (Code.cond _ _ _) :: _) _ _ _); first | refine G.condT rfl ?_ | refine G.condF rfl ?_ | refine G.condYes rfl (by omega) ?_ | refine G.condNo rfl (by omega) ?_) | (with_reducible refine G.exit rfl ?_))); refine G.sub .nil ?_; refine G.ret1 ok rfl ?_; exact ⟨rfl, rfl⟩)
    · rw [decide_eq_false hgr]
      repeat (first | (with_reducible first | refine GL.nil ?_ | refine G.region ?_ | refine G.seq ?_ | refine G.skip ?_ | refine G.block ?_ | refine G.inBlock ?_ | refine G.label ?_) | ((with_reducible show GL _ _ _ _ (_ :: _) _ _ _ _); first | refine GL.p ?_ | refine GL.pK ?_ | refine GL.store ?_ | refine GL.storeN ?_ | refine GL.boxA (fun g => ?_) | refine GL.box1 (fun g => ?_) | refine GL.alloc1 rfl (fun g => ?_) | refine GL.allocA (fun g => ?_) | refine GL.no ?_) | ((with_reducible show G _ _ _ (Item.code (Code.cond _ _ _) :: _) _ _ _); first | refine G.condT rfl ?_ | refine G.condF rfl ?_ | refine G.condYes rfl (by omega) ?_ | refine G.condNo rfl (by omega) ?_) | (with_reducible refine G.exit rfl ?_))
      refine ih (i + 1) _ _ _ _ (by ((repeat' (first | exact trivial | refine And.intro ?_ ?_)); all_goals (first | (refine congrArg some (congrArg (Value.int _) ?_); (try dsimp only); omega) | exact rfl))) .nil ⟨hle1, by omega, fun x hx' => ?_⟩ (by omega)
      rw [htk] at hx'
      rcases List.mem_append.1 hx' with h' | h'
      · exact hsm x h'
      · obtain rfl : x = t := by simpa using h'
        omega
  · rw [List.take_of_length_le (by omega)] at hsm
    repeat (first | (with_reducible first | refine GL.nil ?_ | refine G.region ?_ | refine G.seq ?_ | refine G.skip ?_ | refine G.block ?_ | refine G.inBlock ?_ | refine G.label ?_) | ((with_reducible show GL _ _ _ _ (_ :: _) _ _ _ _); first | refine GL.p ?_ | refine GL.pK ?_ | refine GL.store ?_ | refine GL.storeN ?_ | refine GL.boxA (fun g => ?_) | refine GL.box1 (fun g => ?_) | refine GL.alloc1 rfl (fun g => ?_) | refine GL.allocA (fun g => ?_) | refine GL.no ?_) | ((with_reducible show G _ _ _ (Item.code (Code.cond _ _ _) :: _) _ _ _); first | refine G.condT rfl ?_ | refine G.condF rfl ?_ | refine G.condYes rfl (by omega) ?_ | refine G.condNo rfl (by omega) ?_) | (with_reducible refine G.exit rfl ?_))
    refine GL.call rfl rfl (bytesT_calls hd l _ hx hsm) .nil fun v s2 h1' hq hle2 => ?_
    obtain ⟨z1, x1, e1, hb1, rfl⟩ := hq
    cases e1
    rw [List.nil_append]
    rcases hb1 with ⟨hn1, rfl, rfl⟩ | ⟨hk1, hz1, rfl⟩
    · repeat (first | (with_reducible first | refine GL.nil ?_ | refine G.region ?_ | refine G.seq ?_ | refine G.skip ?_ | refine G.block ?_ | refine G.inBlock ?_ | refine G.label ?_) | ((with_reducible show GL _ _ _ _ (_ :: _) _ _ _ _); first | refine GL.p ?_ | refine GL.pK ?_ | refine GL.store ?_ | refine GL.storeN ?_ | refine GL.boxA (fun g => ?_) | refine GL.box1 (fun g => ?_) | refine GL.alloc1 rfl (fun g => ?_) | refine GL.allocA (fun g => ?_) | refine GL.no ?_) | ((with_reducible show G _ _ _ (Item.code (Code.cond _ _ _) :: _) _ _ _); first | refine G.condT rfl ?_ | refine G.condF rfl ?_ | refine G.condYes rfl (by omega) ?_ | refine G.condNo rfl (by omega) ?_) | (with_reducible refine G.exit rfl ?_))
      refine GL.call rfl rfl (readT_calls z _ (by omega)) .nil fun v s14 h1' hq hle14 => ?_
      obtain ⟨h5, l5, x5, e1, ht5, hr5, rfl⟩ := hq
      cases e1
      rw [List.nil_append]
      have hsm5 := hr5.small
      rcases hr5 with ⟨ha, hc5, rfl⟩ | ⟨ha, rfl, rfl⟩
      · obtain ⟨hk5, hw5⟩ := write_of ha hc5 (fun t ht => (ht5.laid t ht).ilen)
        repeat (first | (with_reducible first | refine GL.nil ?_ | refine G.region ?_ | refine G.seq ?_ | refine G.skip ?_ | refine G.block ?_ | refine G.inBlock ?_ | refine G.label ?_) | ((with_reducible show GL _ _ _ _ (_ :: _) _ _ _ _); first | refine GL.p ?_ | refine GL.pK ?_ | refine GL.store ?_ | refine GL.storeN ?_ | refine GL.boxA (fun g => ?_) | refine GL.box1 (fun g => ?_) | refine GL.alloc1 rfl (fun g => ?_) | refine GL.allocA (fun g => ?_) | refine GL.no ?_) | ((with_reducible show G _ _ _ (Item.code (Code.cond _ _ _) :: _) _ _ _); first | refine G.condT rfl ?_ | refine G.condF rfl ?_ | refine G.condYes rfl (by omega) ?_ | refine G.condNo rfl (by omega) ?_) | (with_reducible refine G.exit rfl ?_))
        refine GL.call rfl rfl (bytesT_calls h5 l5 _ ht5 (fun t ht => by have h6 := hsm5 t ht; rw [(ht5.laid t ht).ilen] at h6; omega)) .nil fun v s15 h1' hq hle15 => ?_
        obtain ⟨z6, x6, e1, hb6, rfl⟩ := hq
        cases e1
        rw [List.nil_append]
        rcases hb6 with ⟨hn6, _⟩ | ⟨-, hz6, rfl⟩
        · exact absurd hk5 hn6
        obtain rfl : z6 = z := bytes_ext (hz6.trans hw5)
        repeat (first | (with_reducible first | refine GL.nil ?_ | refine G.region ?_ | refine G.seq ?_ | refine G.skip ?_ | refine G.block ?_ | refine G.inBlock ?_ | refine G.label ?_) | ((with_reducible show GL _ _ _ _ (_ :: _) _ _ _ _); first | refine GL.p ?_ | refine GL.pK ?_ | refine GL.store ?_ | refine GL.storeN ?_ | refine GL.boxA (fun g => ?_) | refine GL.box1 (fun g => ?_) | refine GL.alloc1 rfl (fun g => ?_) | refine GL.allocA (fun g => ?_) | refine GL.no ?_) | ((with_reducible show G _ _ _ (Item.code (Code.cond _ _ _) :: _) _ _ _); first | refine G.condT rfl ?_ | refine G.condF rfl ?_ | refine G.condYes rfl (by omega) ?_ | refine G.condNo rfl (by omega) ?_) | (with_reducible refine G.exit rfl ?_))
        rw [show decide (z6 = z6) = true from decide_eq_true rfl]
        ((repeat (first | (with_reducible first | refine GL.nil ?_ | refine G.region ?_ | refine G.seq ?_ | refine G.skip ?_ | refine G.block ?_ | refine G.inBlock ?_ | refine G.label ?_) | ((with_reducible show GL _ _ _ _ (_ :: _) _ _ _ _); first | refine GL.p ?_ | refine GL.pK ?_ | refine GL.store ?_ | refine GL.storeN ?_ | refine GL.boxA (fun g => ?_) | refine GL.box1 (fun g => ?_) | refine GL.alloc1 rfl (fun g => ?_) | refine GL.allocA (fun g => ?_) | refine GL.no ?_) | ((with_reducible show G _ _ _ (Item.code (Code.cond _ _ _) :: _) _ _ _); first | refine G.condT rfl ?_ | refine G.condF rfl ?_ | refine G.condYes rfl (by omega) ?_ | refine G.condNo rfl (by omega) ?_) | (with_reducible refine G.exit rfl ?_))); refine GL.call rfl rfl (wakes23_calls _) .nil fun v sw hw' hq hlew => ?_; obtain ⟨e1, rfl⟩ := hq; cases e1; rw [List.nil_append]; (repeat (first | (with_reducible first | refine GL.nil ?_ | refine G.region ?_ | refine G.seq ?_ | refine G.skip ?_ | refine G.block ?_ | refine G.inBlock ?_ | refine G.label ?_) | ((with_reducible show GL _ _ _ _ (_ :: _) _ _ _ _); first | refine GL.p ?_ | refine GL.pK ?_ | refine GL.store ?_ | refine GL.storeN ?_ | refine GL.boxA (fun g => ?_) | refine GL.box1 (fun g => ?_) | refine GL.alloc1 rfl (fun g => ?_) | refine GL.allocA (fun g => ?_) | refine GL.no ?_) | ((with_reducible show G _ _ _ (Item.code (Code.cond _ _ _) :: _) _ _ _); first | refine G.condT rfl ?_ | refine G.condF rfl ?_ | refine G.condYes rfl (by omega) ?_ | refine G.condNo rfl (by omega) ?_) | (with_reducible refine G.exit rfl ?_))); refine G.sub .nil ?_; refine G.ret1 ok rfl ?_; exact ⟨rfl, rfl⟩)
      · ((repeat (first | (with_reducible first | refine GL.nil ?_ | refine G.region ?_ | refine G.seq ?_ | refine G.skip ?_ | refine G.block ?_ | refine G.inBlock ?_ | refine G.label ?_) | ((with_reducible show GL _ _ _ _ (_ :: _) _ _ _ _); first | refine GL.p ?_ | refine GL.pK ?_ | refine GL.store ?_ | refine GL.storeN ?_ | refine GL.boxA (fun g => ?_) | refine GL.box1 (fun g => ?_) | refine GL.alloc1 rfl (fun g => ?_) | refine GL.allocA (fun g => ?_) | refine GL.no ?_) | ((with_reducible show G _ _ _ (Item.code (Code.cond _ _ _) :: _) _ _ _); first | refine G.condT rfl ?_ | refine G.condF rfl ?_ | refine G.condYes rfl (by omega) ?_ | refine G.condNo rfl (by omega) ?_) | (with_reducible refine G.exit rfl ?_))); refine GL.call rfl rfl (wakes23_calls _) .nil fun v sw hw' hq hlew => ?_; obtain ⟨e1, rfl⟩ := hq; cases e1; rw [List.nil_append]; (repeat (first | (with_reducible first | refine GL.nil ?_ | refine G.region ?_ | refine G.seq ?_ | refine G.skip ?_ | refine G.block ?_ | refine G.inBlock ?_ | refine G.label ?_) | ((with_reducible show GL _ _ _ _ (_ :: _) _ _ _ _); first | refine GL.p ?_ | refine GL.pK ?_ | refine GL.store ?_ | refine GL.storeN ?_ | refine GL.boxA (fun g => ?_) | refine GL.box1 (fun g => ?_) | refine GL.alloc1 rfl (fun g => ?_) | refine GL.allocA (fun g => ?_) | refine GL.no ?_) | ((with_reducible show G _ _ _ (Item.code (Code.cond _ _ _) :: _) _ _ _); first | refine G.condT rfl ?_ | refine G.condF rfl ?_ | refine G.condYes rfl (by omega) ?_ | refine G.condNo rfl (by omega) ?_) | (with_reducible refine G.exit rfl ?_))); refine G.sub .nil ?_; refine G.ret1 ok rfl ?_; exact ⟨rfl, rfl⟩)
    · have hlen1 : z1.size ≤ 100000 := by
        have h6 := aby_len hx.laid hk1.2 hsm
        have h7 := hk1.1
        have h8 := bytes_len z1
        rw [← hz1] at h6
        omega
      obtain ⟨hro, hroc⟩ := read_of hk1 (fun t ht => (hx.laid t ht).ilen) hz1 hlen1
      replace hx := hx.le hle2
      repeat (first | (with_reducible first | refine GL.nil ?_ | refine G.region ?_ | refine G.seq ?_ | refine G.skip ?_ | refine G.block ?_ | refine G.inBlock ?_ | refine G.label ?_) | ((with_reducible show GL _ _ _ _ (_ :: _) _ _ _ _); first | refine GL.p ?_ | refine GL.pK ?_ | refine GL.store ?_ | refine GL.storeN ?_ | refine GL.boxA (fun g => ?_) | refine GL.box1 (fun g => ?_) | refine GL.alloc1 rfl (fun g => ?_) | refine GL.allocA (fun g => ?_) | refine GL.no ?_) | ((with_reducible show G _ _ _ (Item.code (Code.cond _ _ _) :: _) _ _ _); first | refine G.condT rfl ?_ | refine G.condF rfl ?_ | refine G.condYes rfl (by omega) ?_ | refine G.condNo rfl (by omega) ?_) | (with_reducible refine G.exit rfl ?_))
      refine GL.call rfl rfl (readT_calls z1 _ hlen1) .nil fun v s3 h1' hq hle3 => ?_
      obtain ⟨h3, l3, x3, e1, ht3, hr3, rfl⟩ := hq
      cases e1
      rw [List.nil_append]
      rcases hr3 with ⟨-, hc3, rfl⟩ | ⟨hn3, _⟩
      rotate_left
      · exact absurd hro hn3
      replace hx := hx.le hle3
      rw [hroc] at hc3
      have hl3 := ht3.len
      obtain ⟨A3, n3, c3⟩ := h3
      dsimp only at hl3
      obtain rfl : n3 = hd.n := by
        have := congrArg List.length hc3
        simp only [List.length_map] at this
        omega
      dsimp only
      repeat (first | (with_reducible first | refine GL.nil ?_ | refine G.region ?_ | refine G.seq ?_ | refine G.skip ?_ | refine G.block ?_ | refine G.inBlock ?_ | refine G.label ?_) | ((with_reducible show GL _ _ _ _ (_ :: _) _ _ _ _); first | refine GL.p ?_ | refine GL.pK ?_ | refine GL.store ?_ | refine GL.storeN ?_ | refine GL.boxA (fun g => ?_) | refine GL.box1 (fun g => ?_) | refine GL.alloc1 rfl (fun g => ?_) | refine GL.allocA (fun g => ?_) | refine GL.no ?_) | ((with_reducible show G _ _ _ (Item.code (Code.cond _ _ _) :: _) _ _ _); first | refine G.condT rfl ?_ | refine G.condF rfl ?_ | refine G.condYes rfl (by omega) ?_ | refine G.condNo rfl (by omega) ?_) | (with_reducible refine G.exit rfl ?_))
      refine G.loop (fun i : Nat => [(0, .slice hd.A hd.n hd.c), (1, .string z), (9, .slice A3 hd.n c3), (57, .int .i64 hd.n), (58, .int .i64 i)]) (fun _ => []) (fun i s' => s3.le s' ∧ i ≤ hd.n) (fun i => hd.n - i) 0 (by ((repeat' (first | exact trivial | refine And.intro ?_ ?_)); all_goals (first | (refine congrArg some (congrArg (Value.int _) ?_); (try dsimp only); omega) | exact rfl))) .nil ⟨Store.le.refl _, Nat.zero_le _⟩ ?_
      rintro j s6 ⟨hle6, hj⟩ ih2
      replace hx := hx.le hle6
      replace ht3 := ht3.le hle6
      have hS3 := ht3.sl
      have hS4 := hx.sl
      by_cases hlt2 : (j : Int) < hd.n
      · have hat3 := tab_at l3 j (by omega)
        have hat4 := tab_at l j (by omega)
        have hmem3 : l3[j]'(by omega) ∈ l3 := List.getElem_mem _
        have hmem4 : l[j]'(by omega) ∈ l := List.getElem_mem _
        have hcc : (l3[j]'(by omega)).con = (l[j]'(by omega)).con := by
          have h5 : (l3.map TabD.con)[j]? = (l.map TabD.con)[j]? := by rw [hc3]
          rw [List.getElem?_map, List.getElem?_map, List.getElem?_eq_getElem (by omega), List.getElem?_eq_getElem (by omega)] at h5
          exact Option.some.inj h5
        generalize l3[j]'(by omega) = t at hat3 hmem3 hcc
        generalize l[j]'(by omega) = u at hat4 hmem4 hcc
        repeat (first | (with_reducible first | refine GL.nil ?_ | refine G.region ?_ | refine G.seq ?_ | refine G.skip ?_ | refine G.block ?_ | refine G.inBlock ?_ | refine G.label ?_) | ((with_reducible show GL _ _ _ _ (_ :: _) _ _ _ _); first | refine GL.p ?_ | refine GL.pK ?_ | refine GL.store ?_ | refine GL.storeN ?_ | refine GL.boxA (fun g => ?_) | refine GL.box1 (fun g => ?_) | refine GL.alloc1 rfl (fun g => ?_) | refine GL.allocA (fun g => ?_) | refine GL.no ?_) | ((with_reducible show G _ _ _ (Item.code (Code.cond _ _ _) :: _) _ _ _); first | refine G.condT rfl ?_ | refine G.condF rfl ?_ | refine G.condYes rfl (by omega) ?_ | refine G.condNo rfl (by omega) ?_) | (with_reducible refine G.exit rfl ?_))
        refine G.draw0 (m := 10) (lay 10 0) follows_mixed ?_
        (first | refine GD.p 0 (lay 10 1) ?_ | refine GD.no 0 (lay 10 1) ?_ | refine GD.pK 0 (lay 10 1) ?_); (first | refine GD.p 1 (lay 10 3) ?_ | refine GD.no 1 (lay 10 3) ?_ | refine GD.pK 1 (lay 10 3) ?_); (first | refine GD.p 2 (lay 10 7) ?_ | refine GD.no 2 (lay 10 7) ?_ | refine GD.pK 2 (lay 10 7) ?_); (first | refine GD.p 3 (lay 10 15) ?_ | refine GD.no 3 (lay 10 15) ?_ | refine GD.pK 3 (lay 10 15) ?_); (first | refine GD.p 4 (lay 10 31) ?_ | refine GD.no 4 (lay 10 31) ?_ | refine GD.pK 4 (lay 10 31) ?_); (first | refine GD.p 5 (lay 10 63) ?_ | refine GD.no 5 (lay 10 63) ?_ | refine GD.pK 5 (lay 10 63) ?_); (first | refine GD.p 6 (lay 10 127) ?_ | refine GD.no 6 (lay 10 127) ?_ | refine GD.pK 6 (lay 10 127) ?_); (first | refine GD.p 7 (lay 10 255) ?_ | refine GD.no 7 (lay 10 255) ?_ | refine GD.pK 7 (lay 10 255) ?_)
        refine GD.call 8 (lay 10 511) rfl rfl rfl (tsame_calls t u _ (ht3.laid t hmem3) (hx.laid u hmem4)) .nil (fun v s7 h1' hq hle7 => ?_) (fun v s7 h1' hq => ?_)
        rotate_left
        · obtain ⟨e1, hs7, rfl⟩ := hq
          exact ⟨_, .nil⟩
        obtain ⟨e1, hs7, rfl⟩ := hq
        rw [decide_eq_true (con_same hcc)] at e1
        subst s7
        cases e1
        rw [List.nil_append]
        (first | refine GD.p 9 (lay 10 1023) ?_ | refine GD.no 9 (lay 10 1023) ?_ | refine GD.pK 9 (lay 10 1023) ?_)
        refine GD.nil ?_
        repeat (first | (with_reducible first | refine GL.nil ?_ | refine G.region ?_ | refine G.seq ?_ | refine G.skip ?_ | refine G.block ?_ | refine G.inBlock ?_ | refine G.label ?_) | ((with_reducible show GL _ _ _ _ (_ :: _) _ _ _ _); first | refine GL.p ?_ | refine GL.pK ?_ | refine GL.store ?_ | refine GL.storeN ?_ | refine GL.boxA (fun g => ?_) | refine GL.box1 (fun g => ?_) | refine GL.alloc1 rfl (fun g => ?_) | refine GL.allocA (fun g => ?_) | refine GL.no ?_) | ((with_reducible show G _ _ _ (Item.code (Code.cond _ _ _) :: _) _ _ _); first | refine G.condT rfl ?_ | refine G.condF rfl ?_ | refine G.condYes rfl (by omega) ?_ | refine G.condNo rfl (by omega) ?_) | (with_reducible refine G.exit rfl ?_))
        refine ih2 (j + 1) _ _ _ _ (by ((repeat' (first | exact trivial | refine And.intro ?_ ?_)); all_goals (first | (refine congrArg some (congrArg (Value.int _) ?_); (try dsimp only); omega) | exact rfl))) .nil ⟨hle6, by omega⟩ (by omega)
      · repeat (first | (with_reducible first | refine GL.nil ?_ | refine G.region ?_ | refine G.seq ?_ | refine G.skip ?_ | refine G.block ?_ | refine G.inBlock ?_ | refine G.label ?_) | ((with_reducible show GL _ _ _ _ (_ :: _) _ _ _ _); first | refine GL.p ?_ | refine GL.pK ?_ | refine GL.store ?_ | refine GL.storeN ?_ | refine GL.boxA (fun g => ?_) | refine GL.box1 (fun g => ?_) | refine GL.alloc1 rfl (fun g => ?_) | refine GL.allocA (fun g => ?_) | refine GL.no ?_) | ((with_reducible show G _ _ _ (Item.code (Code.cond _ _ _) :: _) _ _ _); first | refine G.condT rfl ?_ | refine G.condF rfl ?_ | refine G.condYes rfl (by omega) ?_ | refine G.condNo rfl (by omega) ?_) | (with_reducible refine G.exit rfl ?_))
        refine GL.call rfl rfl (readT_calls z _ (by omega)) .nil fun v s14 h1' hq hle14 => ?_
        obtain ⟨h5, l5, x5, e1, ht5, hr5, rfl⟩ := hq
        cases e1
        rw [List.nil_append]
        have hsm5 := hr5.small
        rcases hr5 with ⟨ha, hc5, rfl⟩ | ⟨ha, rfl, rfl⟩
        · obtain ⟨hk5, hw5⟩ := write_of ha hc5 (fun t ht => (ht5.laid t ht).ilen)
          repeat (first | (with_reducible first | refine GL.nil ?_ | refine G.region ?_ | refine G.seq ?_ | refine G.skip ?_ | refine G.block ?_ | refine G.inBlock ?_ | refine G.label ?_) | ((with_reducible show GL _ _ _ _ (_ :: _) _ _ _ _); first | refine GL.p ?_ | refine GL.pK ?_ | refine GL.store ?_ | refine GL.storeN ?_ | refine GL.boxA (fun g => ?_) | refine GL.box1 (fun g => ?_) | refine GL.alloc1 rfl (fun g => ?_) | refine GL.allocA (fun g => ?_) | refine GL.no ?_) | ((with_reducible show G _ _ _ (Item.code (Code.cond _ _ _) :: _) _ _ _); first | refine G.condT rfl ?_ | refine G.condF rfl ?_ | refine G.condYes rfl (by omega) ?_ | refine G.condNo rfl (by omega) ?_) | (with_reducible refine G.exit rfl ?_))
          refine GL.call rfl rfl (bytesT_calls h5 l5 _ ht5 (fun t ht => by have h6 := hsm5 t ht; rw [(ht5.laid t ht).ilen] at h6; omega)) .nil fun v s15 h1' hq hle15 => ?_
          obtain ⟨z6, x6, e1, hb6, rfl⟩ := hq
          cases e1
          rw [List.nil_append]
          rcases hb6 with ⟨hn6, _⟩ | ⟨-, hz6, rfl⟩
          · exact absurd hk5 hn6
          obtain rfl : z6 = z := bytes_ext (hz6.trans hw5)
          repeat (first | (with_reducible first | refine GL.nil ?_ | refine G.region ?_ | refine G.seq ?_ | refine G.skip ?_ | refine G.block ?_ | refine G.inBlock ?_ | refine G.label ?_) | ((with_reducible show GL _ _ _ _ (_ :: _) _ _ _ _); first | refine GL.p ?_ | refine GL.pK ?_ | refine GL.store ?_ | refine GL.storeN ?_ | refine GL.boxA (fun g => ?_) | refine GL.box1 (fun g => ?_) | refine GL.alloc1 rfl (fun g => ?_) | refine GL.allocA (fun g => ?_) | refine GL.no ?_) | ((with_reducible show G _ _ _ (Item.code (Code.cond _ _ _) :: _) _ _ _); first | refine G.condT rfl ?_ | refine G.condF rfl ?_ | refine G.condYes rfl (by omega) ?_ | refine G.condNo rfl (by omega) ?_) | (with_reducible refine G.exit rfl ?_))
          rw [show decide (z6 = z6) = true from decide_eq_true rfl]
          ((repeat (first | (with_reducible first | refine GL.nil ?_ | refine G.region ?_ | refine G.seq ?_ | refine G.skip ?_ | refine G.block ?_ | refine G.inBlock ?_ | refine G.label ?_) | ((with_reducible show GL _ _ _ _ (_ :: _) _ _ _ _); first | refine GL.p ?_ | refine GL.pK ?_ | refine GL.store ?_ | refine GL.storeN ?_ | refine GL.boxA (fun g => ?_) | refine GL.box1 (fun g => ?_) | refine GL.alloc1 rfl (fun g => ?_) | refine GL.allocA (fun g => ?_) | refine GL.no ?_) | ((with_reducible show G _ _ _ (Item.code (Code.cond _ _ _) :: _) _ _ _); first | refine G.condT rfl ?_ | refine G.condF rfl ?_ | refine G.condYes rfl (by omega) ?_ | refine G.condNo rfl (by omega) ?_) | (with_reducible refine G.exit rfl ?_))); refine GL.call rfl rfl (wakes23_calls _) .nil fun v sw hw' hq hlew => ?_; obtain ⟨e1, rfl⟩ := hq; cases e1; rw [List.nil_append]; (repeat (first | (with_reducible first | refine GL.nil ?_ | refine G.region ?_ | refine G.seq ?_ | refine G.skip ?_ | refine G.block ?_ | refine G.inBlock ?_ | refine G.label ?_) | ((with_reducible show GL _ _ _ _ (_ :: _) _ _ _ _); first | refine GL.p ?_ | refine GL.pK ?_ | refine GL.store ?_ | refine GL.storeN ?_ | refine GL.boxA (fun g => ?_) | refine GL.box1 (fun g => ?_) | refine GL.alloc1 rfl (fun g => ?_) | refine GL.allocA (fun g => ?_) | refine GL.no ?_) | ((with_reducible show G _ _ _ (Item.code (Code.cond _ _ _) :: _) _ _ _); first | refine G.condT rfl ?_ | refine G.condF rfl ?_ | refine G.condYes rfl (by omega) ?_ | refine G.condNo rfl (by omega) ?_) | (with_reducible refine G.exit rfl ?_))); refine G.sub .nil ?_; refine G.ret1 ok rfl ?_; exact ⟨rfl, rfl⟩)
        · ((repeat (first | (with_reducible first | refine GL.nil ?_ | refine G.region ?_ | refine G.seq ?_ | refine G.skip ?_ | refine G.block ?_ | refine G.inBlock ?_ | refine G.label ?_) | ((with_reducible show GL _ _ _ _ (_ :: _) _ _ _ _); first | refine GL.p ?_ | refine GL.pK ?_ | refine GL.store ?_ | refine GL.storeN ?_ | refine GL.boxA (fun g => ?_) | refine GL.box1 (fun g => ?_) | refine GL.alloc1 rfl (fun g => ?_) | refine GL.allocA (fun g => ?_) | refine GL.no ?_) | ((with_reducible show G _ _ _ (Item.code (Code.cond _ _ _) :: _) _ _ _); first | refine G.condT rfl ?_ | refine G.condF rfl ?_ | refine G.condYes rfl (by omega) ?_ | refine G.condNo rfl (by omega) ?_) | (with_reducible refine G.exit rfl ?_))); refine GL.call rfl rfl (wakes23_calls _) .nil fun v sw hw' hq hlew => ?_; obtain ⟨e1, rfl⟩ := hq; cases e1; rw [List.nil_append]; (repeat (first | (with_reducible first | refine GL.nil ?_ | refine G.region ?_ | refine G.seq ?_ | refine G.skip ?_ | refine G.block ?_ | refine G.inBlock ?_ | refine G.label ?_) | ((with_reducible show GL _ _ _ _ (_ :: _) _ _ _ _); first | refine GL.p ?_ | refine GL.pK ?_ | refine GL.store ?_ | refine GL.storeN ?_ | refine GL.boxA (fun g => ?_) | refine GL.box1 (fun g => ?_) | refine GL.alloc1 rfl (fun g => ?_) | refine GL.allocA (fun g => ?_) | refine GL.no ?_) | ((with_reducible show G _ _ _ (Item.code (Code.cond _ _ _) :: _) _ _ _); first | refine G.condT rfl ?_ | refine G.condF rfl ?_ | refine G.condYes rfl (by omega) ?_ | refine G.condNo rfl (by omega) ?_) | (with_reducible refine G.exit rfl ?_))); refine G.sub .nil ?_; refine G.ret1 ok rfl ?_; exact ⟨rfl, rfl⟩)
end Go.Proofs.Ytnndjobhcncanaa
