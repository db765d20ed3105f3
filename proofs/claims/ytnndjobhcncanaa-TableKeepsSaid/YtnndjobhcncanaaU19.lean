/- Tables as bytes: the program's and the document's. No statement of the seat is proved here. -/
import Derived.Test.YtnndjobhcncanaaU18
import Derived.Test.YtnndjobhcncanaaV2
namespace Go.Proofs.Ytnndjobhcncanaa
open Go.RowKit
theorem put3_calls (g : Nat) (A : Option Addr) (c : Nat) (l : List UInt8) (x : Int) (s : Store) (hb : Bs s A l.length c l) (hn : l.length ≤ 100000) (h0 : 0 ≤ x) (hx : x ≤ 1099511627776) :
    Fn Try.prog 44 #[.int .i64 x, .pointer (some ⟨g, 0, none⟩)] s [bufE g A l.length c] (fun e s' h' => ∃ A' c', e = .returned (.tuple #[]) ∧ Bs s' A' (l ++ venc x.toNat).length c' (l ++ venc x.toNat) ∧ h' = [bufE g A' (l ++ venc x.toNat).length c']) := by
  have := put2_calls g A l.length c l x.toNat s hb hn (by omega)
  rw [Int.toNat_of_nonneg h0] at this
  rw [List.length_append, venc_length]
  exact this
def tabsOk (l : List TabD) : Prop := l.length = 3 ∧ ∀ t ∈ l, t.ok
def BytesIs (l : List TabD) (z : ByteArray) (e : Int) : Prop := (¬ tabsOk l ∧ z = ⟨#[]⟩ ∧ e = 2) ∨ (tabsOk l ∧ z.data.toList = aby l ∧ e = 0)
theorem BytesIs.same {l : List TabD} {z z' : ByteArray} {e e' : Int} (h : BytesIs l z e) (h' : BytesIs l z' e') : z = z' ∧ e = e' := by
  rcases h with ⟨h0, rfl, rfl⟩ | ⟨h0, h1, rfl⟩ <;> rcases h' with ⟨g0, rfl, rfl⟩ | ⟨g0, g1, rfl⟩ <;> first | exact ⟨rfl, rfl⟩ | exact absurd h0 g0 | exact absurd g0 h0 | exact ⟨bytes_ext (h1.trans g1.symm), rfl⟩
theorem aby_len {l : List TabD} {s : Store} (hl : ∀ t ∈ l, t.laid s) (hk : ∀ t ∈ l, t.ok) (hs : ∀ t ∈ l, t.h.n ≤ 2000) : (aby l).length ≤ 12100 * l.length := by
  induction l with
  | nil => simp [aby]
  | cons t l ih =>
    have h1 := ih (fun x hx => hl x (List.mem_cons_of_mem _ hx)) (fun x hx => hk x (List.mem_cons_of_mem _ hx)) (fun x hx => hs x (List.mem_cons_of_mem _ hx))
    have h2 := tby_len (hk t (List.mem_cons_self ..)) (hl t (List.mem_cons_self ..)).ilen (hs t (List.mem_cons_self ..))
    simp only [aby, List.flatMap_cons, List.length_append, List.length_cons] at h1 ⊢
    omega
theorem aby_snoc (l : List TabD) (t : TabD) : aby (l ++ [t]) = aby l ++ tby t := by simp [aby]
set_option maxRecDepth 20000 in
set_option maxHeartbeats 16000000 in
theorem bytesT_calls (h : Hd) (l : List TabD) (s : Store) (hx : Ts s h l) (hsm : ∀ t ∈ l, t.h.n ≤ 2000) : Fn Try.prog 28 #[.slice h.A h.n h.c] s [] (fun e _ h' => ∃ z x, e = .returned (.tuple #[.string z, .int .i64 x]) ∧ BytesIs l z x ∧ h' = []) := by
  have hl := hx.len
  refine Fn.intro (args := [.slice h.A h.n h.c]) Try.func28 rfl Try.ntmps28 (Nat.le_of_ble_eq_true rfl) (fun C ok hh => ?_)
  by_cases h0 : (h.n : Int) ≠ 3
  · repeat (first | (with_reducible first | refine GL.nil ?_ | refine G.region ?_ | refine G.seq ?_ | refine G.skip ?_ | refine G.block ?_ | refine G.inBlock ?_ | refine G.label ?_) | ((with_reducible show GL _ _ _ _ (_ :: _) _ _ _ _); first | refine GL.p ?_ | refine GL.pK ?_ | refine GL.store ?_ | refine GL.storeN ?_ | refine GL.boxA (fun g => ?_) | refine GL.box1 (fun g => ?_) | refine GL.alloc1 rfl (fun g => ?_) | refine GL.allocA (fun g => ?_) | refine GL.no ?_) | ((with_reducible show G _ _ _ (Item.code (Code.cond _ _ _) :: _) _ _ _); first | refine G.condT rfl ?_ | refine G.condF rfl ?_ | refine G.condYes rfl (by omega) ?_ | refine G.condNo rfl (by omega) ?_) | (with_reducible refine G.exit rfl ?_))
    refine G.ret2 ok rfl ?_
    exact ⟨_, _, rfl, .inl ⟨fun hk => h0 (by have := hk.1; omega), rfl, rfl⟩, rfl⟩
  repeat (first | (with_reducible first | refine GL.nil ?_ | refine G.region ?_ | refine G.seq ?_ | refine G.skip ?_ | refine G.block ?_ | refine G.inBlock ?_ | refine G.label ?_) | ((with_reducible show GL _ _ _ _ (_ :: _) _ _ _ _); first | refine GL.p ?_ | refine GL.pK ?_ | refine GL.store ?_ | refine GL.storeN ?_ | refine GL.boxA (fun g => ?_) | refine GL.box1 (fun g => ?_) | refine GL.alloc1 rfl (fun g => ?_) | refine GL.allocA (fun g => ?_) | refine GL.no ?_) | ((with_reducible show G _ _ _ (Item.code (Code.cond _ _ _) :: _) _ _ _); first | refine G.condT rfl ?_ | refine G.condF rfl ?_ | refine G.condYes rfl (by omega) ?_ | refine G.condNo rfl (by omega) ?_) | (with_reducible refine G.exit rfl ?_))
  refine GL.call rfl rfl (hasT_calls h l s hx) .nil fun v s1 h1 hq hle => ?_
  obtain ⟨b, e1, hb, h3, rfl⟩ := hq
  subst s1
  cases e1
  rw [List.nil_append]
  cases b
  rotate_left
  · repeat (first | (with_reducible first | refine GL.nil ?_ | refine G.region ?_ | refine G.seq ?_ | refine G.skip ?_ | refine G.block ?_ | refine G.inBlock ?_ | refine G.label ?_) | ((with_reducible show GL _ _ _ _ (_ :: _) _ _ _ _); first | refine GL.p ?_ | refine GL.pK ?_ | refine GL.store ?_ | refine GL.storeN ?_ | refine GL.boxA (fun g => ?_) | refine GL.box1 (fun g => ?_) | refine GL.alloc1 rfl (fun g => ?_) | refine GL.allocA (fun g => ?_) | refine GL.no ?_) | ((with_reducible show G _ _ _ (Item.code (Code.cond _ _ _) :: _) _ _ _); first | refine G.condT rfl ?_ | refine G.condF rfl ?_ | refine G.condYes rfl (by omega) ?_ | refine G.condNo rfl (by omega) ?_) | (with_reducible refine G.exit rfl ?_))
    refine G.ret2 ok rfl ?_
    exact ⟨_, _, rfl, .inl ⟨fun hk => by have := hb.2 hk.2; simp at this, rfl, rfl⟩, rfl⟩
  have hok := hb.1 rfl
  repeat (first | (with_reducible first | refine GL.nil ?_ | refine G.region ?_ | refine G.seq ?_ | refine G.skip ?_ | refine G.block ?_ | refine G.inBlock ?_ | refine G.label ?_) | ((with_reducible show GL _ _ _ _ (_ :: _) _ _ _ _); first | refine GL.p ?_ | refine GL.pK ?_ | refine GL.store ?_ | refine GL.storeN ?_ | refine GL.boxA (fun g => ?_) | refine GL.box1 (fun g => ?_) | refine GL.alloc1 rfl (fun g => ?_) | refine GL.allocA (fun g => ?_) | refine GL.no ?_) | ((with_reducible show G _ _ _ (Item.code (Code.cond _ _ _) :: _) _ _ _); first | refine G.condT rfl ?_ | refine G.condF rfl ?_ | refine G.condYes rfl (by omega) ?_ | refine G.condNo rfl (by omega) ?_) | (with_reducible refine G.exit rfl ?_))
  refine G.loop (fun x : Nat × Option Addr × Nat => [(4, .pointer (some ⟨g, 0, none⟩)), (5, .func (.func 44) [].toArray [Value.pointer (some ⟨g, 0, none⟩)].toArray), (19, .slice h.A h.n h.c), (20, .int .i64 h.n), (21, .int .i64 x.1)]) (fun x => [bufE g x.2.1 (aby (l.take x.1)).length x.2.2])
    (fun x s' => s.le s' ∧ x.1 ≤ h.n ∧ Bs s' x.2.1 (aby (l.take x.1)).length x.2.2 (aby (l.take x.1))) (fun x => h.n - x.1) (0, none, 0) (by ((repeat' (first | exact trivial | refine And.intro ?_ ?_)); all_goals (first | (refine congrArg some (congrArg (Value.int _) ?_); (try dsimp only); omega) | exact rfl))) (by (first | exact Split.refl _ | ((try dsimp only); repeat (first | exact Split.nil | (apply Split.cons; (repeat (first | exact Pick.head | apply Pick.tail))))))) ⟨Store.le.refl _, Nat.zero_le _, Sl.nil s 1⟩ ?_
  rintro ⟨i, A, c⟩ s1 ⟨hle1, hi, hbs⟩ ih
  dsimp only at hi hbs ⊢
  replace hx := hx.le hle1
  have hS := hx.sl
  by_cases hlt : (i : Int) < h.n
  · have hat := tab_at l i (by omega)
    have htk := List.take_succ_eq_append_getElem (l := l) (i := i) (by omega)
    have hmem : l[i]'(by omega) ∈ l := List.getElem_mem _
    generalize l[i]'(by omega) = t at hat htk hmem
    have ht := hx.laid t hmem
    have htl := ht.ilen
    have hk := hok t hmem
    have hn := hsm t hmem
    have k0 := hk.st
    have k1 := hk.se
    have k2 := hk.en
    have hbl : (aby (l.take i)).length ≤ 36300 := by
      have := aby_len (l := l.take i) (s := s1) (fun x hx' => hx.laid x (List.mem_of_mem_take hx')) (fun x hx' => hok x (List.mem_of_mem_take hx')) (fun x hx' => hsm x (List.mem_of_mem_take hx'))
      have h5 : (l.take i).length ≤ 3 := by rw [List.length_take]; omega
      omega
    have hnext : aby (l.take (i + 1)) = aby (l.take i) ++ venc t.st.toNat ++ venc (t.h.n : Int).toNat ++ dby t.l t.h.n := by
      rw [htk, aby_snoc, tby, Int.toNat_natCast, htl, List.append_assoc, List.append_assoc, List.append_assoc]
    generalize aby (l.take i) = B at hbs hbl hnext
    have hv1 : (venc t.st.toNat).length ≤ 6 := by rw [venc_length]; exact vlen_le _ (by omega)
    have hv2 : (venc (t.h.n : Int).toNat).length ≤ 6 := by rw [venc_length]; exact vlen_le _ (by omega)
    repeat (first | (with_reducible first | refine GL.nil ?_ | refine G.region ?_ | refine G.seq ?_ | refine G.skip ?_ | refine G.block ?_ | refine G.inBlock ?_ | refine G.label ?_) | ((with_reducible show GL _ _ _ _ (_ :: _) _ _ _ _); first | refine GL.p ?_ | refine GL.pK ?_ | refine GL.store ?_ | refine GL.storeN ?_ | refine GL.boxA (fun g => ?_) | refine GL.box1 (fun g => ?_) | refine GL.alloc1 rfl (fun g => ?_) | refine GL.allocA (fun g => ?_) | refine GL.no ?_) | ((with_reducible show G _ _ _ (Item.code (Code.cond _ _ _) :: _) _ _ _); first | refine G.condT rfl ?_ | refine G.condF rfl ?_ | refine G.condYes rfl (by omega) ?_ | refine G.condNo rfl (by omega) ?_) | (with_reducible refine G.exit rfl ?_))
    rename_i g4
    refine GL.callV rfl rfl rfl (put3_calls g4 A c B t.st s1 hbs (by omega) (by omega) (by omega)) (by (first | exact Split.refl _ | ((try dsimp only); repeat (first | exact Split.nil | (apply Split.cons; (repeat (first | exact Pick.head | apply Pick.tail))))))) fun v s2 h1 hq hle2 => ?_
    obtain ⟨A1, c1, e1, hb1, rfl⟩ := hq
    cases e1
    repeat (first | (with_reducible first | refine GL.nil ?_ | refine G.region ?_ | refine G.seq ?_ | refine G.skip ?_ | refine G.block ?_ | refine G.inBlock ?_ | refine G.label ?_) | ((with_reducible show GL _ _ _ _ (_ :: _) _ _ _ _); first | refine GL.p ?_ | refine GL.pK ?_ | refine GL.store ?_ | refine GL.storeN ?_ | refine GL.boxA (fun g => ?_) | refine GL.box1 (fun g => ?_) | refine GL.alloc1 rfl (fun g => ?_) | refine GL.allocA (fun g => ?_) | refine GL.no ?_) | ((with_reducible show G _ _ _ (Item.code (Code.cond _ _ _) :: _) _ _ _); first | refine G.condT rfl ?_ | refine G.condF rfl ?_ | refine G.condYes rfl (by omega) ?_ | refine G.condNo rfl (by omega) ?_) | (with_reducible refine G.exit rfl ?_))
    refine GL.callV rfl rfl rfl (put3_calls g4 A1 c1 _ (t.h.n : Int) s2 hb1 (by rw [List.length_append]; omega) (by omega) (by omega)) (by (first | exact Split.refl _ | ((try dsimp only); repeat (first | exact Split.nil | (apply Split.cons; (repeat (first | exact Pick.head | apply Pick.tail))))))) fun v s3 h1 hq hle3 => ?_
    obtain ⟨A2, c2, e1, hb2, rfl⟩ := hq
    cases e1
    have hle13 := hle2.trans hle3
    have hbl2 : (B ++ venc t.st.toNat ++ venc (t.h.n : Int).toNat).length ≤ 36400 := by rw [List.length_append, List.length_append]; omega
    generalize B ++ venc t.st.toNat ++ venc (t.h.n : Int).toNat = B2 at hb2 hbl2 hnext
    repeat (first | (with_reducible first | refine GL.nil ?_ | refine G.region ?_ | refine G.seq ?_ | refine G.skip ?_ | refine G.block ?_ | refine G.inBlock ?_ | refine G.label ?_) | ((with_reducible show GL _ _ _ _ (_ :: _) _ _ _ _); first | refine GL.p ?_ | refine GL.pK ?_ | refine GL.store ?_ | refine GL.storeN ?_ | refine GL.boxA (fun g => ?_) | refine GL.box1 (fun g => ?_) | refine GL.alloc1 rfl (fun g => ?_) | refine GL.allocA (fun g => ?_) | refine GL.no ?_) | ((with_reducible show G _ _ _ (Item.code (Code.cond _ _ _) :: _) _ _ _); first | refine G.condT rfl ?_ | refine G.condF rfl ?_ | refine G.condYes rfl (by omega) ?_ | refine G.condNo rfl (by omega) ?_) | (with_reducible refine G.exit rfl ?_))
    refine G.loop (fun x : Nat × Option Addr × Nat => [(4, .pointer (some ⟨g4, 0, none⟩)), (5, .func (.func 44) [].toArray [Value.pointer (some ⟨g4, 0, none⟩)].toArray), (19, .slice h.A h.n h.c), (20, .int .i64 h.n), (21, .int .i64 i), (7, .pointer (some ⟨g, 0, none⟩)), (8, .int .i64 (ahead t.l x.1)), (35, .slice t.h.A t.h.n t.h.c), (36, .int .i64 t.h.n), (37, .int .i64 x.1)]) (fun x => [bufE g4 x.2.1 (B2 ++ dby t.l x.1).length x.2.2])
      (fun x s' => s3.le s' ∧ x.1 ≤ t.h.n ∧ Bs s' x.2.1 (B2 ++ dby t.l x.1).length x.2.2 (B2 ++ dby t.l x.1)) (fun x => t.h.n - x.1) (0, A2, c2) (by ((repeat' (first | exact trivial | refine And.intro ?_ ?_)); all_goals (first | (refine congrArg some (congrArg (Value.int _) ?_); (try dsimp only); omega) | exact rfl))) (by dsimp only [dby]; rw [List.append_nil]; (first | exact Split.refl _ | ((try dsimp only); repeat (first | exact Split.nil | (apply Split.cons; (repeat (first | exact Pick.head | apply Pick.tail))))))) ⟨Store.le.refl _, Nat.zero_le _, by dsimp only [dby]; rw [List.append_nil]; exact hb2⟩ ?_
    rintro ⟨k, A3, c3⟩ s4 ⟨hle4, hkk, hb3⟩ ih2
    dsimp only at hkk hb3 ⊢
    have ht4 := ht.le (hle13.trans hle4)
    have hdl := dby_len hk k hkk
    by_cases hlt2 : (k : Int) < t.h.n
    · have hat2 := icells_at t.l k (by omega)
      have hst := hk.step k (by omega)
      repeat (first | (with_reducible first | refine GL.nil ?_ | refine G.region ?_ | refine G.seq ?_ | refine G.skip ?_ | refine G.block ?_ | refine G.inBlock ?_ | refine G.label ?_) | ((with_reducible show GL _ _ _ _ (_ :: _) _ _ _ _); first | refine GL.p ?_ | refine GL.pK ?_ | refine GL.store ?_ | refine GL.storeN ?_ | refine GL.boxA (fun g => ?_) | refine GL.box1 (fun g => ?_) | refine GL.alloc1 rfl (fun g => ?_) | refine GL.allocA (fun g => ?_) | refine GL.no ?_) | ((with_reducible show G _ _ _ (Item.code (Code.cond _ _ _) :: _) _ _ _); first | refine G.condT rfl ?_ | refine G.condF rfl ?_ | refine G.condYes rfl (by omega) ?_ | refine G.condNo rfl (by omega) ?_) | (with_reducible refine G.exit rfl ?_))
      refine GL.callV rfl rfl rfl (put3_calls g4 A3 c3 _ (nth t.l k - ahead t.l k) s4 hb3 (by rw [List.length_append]; omega) (by omega) (by omega)) (by (first | exact Split.refl _ | ((try dsimp only); repeat (first | exact Split.nil | (apply Split.cons; (repeat (first | exact Pick.head | apply Pick.tail))))))) fun v s5 h1 hq hle5 => ?_
      obtain ⟨A4, c4, e1, hb4, rfl⟩ := hq
      cases e1
      rw [List.append_assoc] at hb4 ⊢
      repeat (first | (with_reducible first | refine GL.nil ?_ | refine G.region ?_ | refine G.seq ?_ | refine G.skip ?_ | refine G.block ?_ | refine G.inBlock ?_ | refine G.label ?_) | ((with_reducible show GL _ _ _ _ (_ :: _) _ _ _ _); first | refine GL.p ?_ | refine GL.pK ?_ | refine GL.store ?_ | refine GL.storeN ?_ | refine GL.boxA (fun g => ?_) | refine GL.box1 (fun g => ?_) | refine GL.alloc1 rfl (fun g => ?_) | refine GL.allocA (fun g => ?_) | refine GL.no ?_) | ((with_reducible show G _ _ _ (Item.code (Code.cond _ _ _) :: _) _ _ _); first | refine G.condT rfl ?_ | refine G.condF rfl ?_ | refine G.condYes rfl (by omega) ?_ | refine G.condNo rfl (by omega) ?_) | (with_reducible refine G.exit rfl ?_))
      refine ih2 (k + 1, A4, c4) _ _ _ _ (by ((repeat' (first | exact trivial | refine And.intro ?_ ?_)); all_goals (first | (refine congrArg some (congrArg (Value.int _) ?_); (try dsimp only); omega) | exact rfl))) (by (first | exact Split.refl _ | ((try dsimp only); repeat (first | exact Split.nil | (apply Split.cons; (repeat (first | exact Pick.head | apply Pick.tail))))))) ⟨hle4.trans hle5, by dsimp only; omega, hb4⟩ (by dsimp only; omega)
    · obtain rfl : k = t.h.n := by omega
      rw [← hnext] at hb3 ⊢
      repeat (first | (with_reducible first | refine GL.nil ?_ | refine G.region ?_ | refine G.seq ?_ | refine G.skip ?_ | refine G.block ?_ | refine G.inBlock ?_ | refine G.label ?_) | ((with_reducible show GL _ _ _ _ (_ :: _) _ _ _ _); first | refine GL.p ?_ | refine GL.pK ?_ | refine GL.store ?_ | refine GL.storeN ?_ | refine GL.boxA (fun g => ?_) | refine GL.box1 (fun g => ?_) | refine GL.alloc1 rfl (fun g => ?_) | refine GL.allocA (fun g => ?_) | refine GL.no ?_) | ((with_reducible show G _ _ _ (Item.code (Code.cond _ _ _) :: _) _ _ _); first | refine G.condT rfl ?_ | refine G.condF rfl ?_ | refine G.condYes rfl (by omega) ?_ | refine G.condNo rfl (by omega) ?_) | (with_reducible refine G.exit rfl ?_))
      refine ih (i + 1, A3, c3) _ _ _ _ (by ((repeat' (first | exact trivial | refine And.intro ?_ ?_)); all_goals (first | (refine congrArg some (congrArg (Value.int _) ?_); (try dsimp only); omega) | exact rfl))) (by (first | exact Split.refl _ | ((try dsimp only); repeat (first | exact Split.nil | (apply Split.cons; (repeat (first | exact Pick.head | apply Pick.tail))))))) ⟨hle1.trans (hle13.trans hle4), by dsimp only; omega, hb3⟩ (by dsimp only; omega)
  · rw [List.take_of_length_le (by omega)] at hbs ⊢
    repeat (first | (with_reducible first | refine GL.nil ?_ | refine G.region ?_ | refine G.seq ?_ | refine G.skip ?_ | refine G.block ?_ | refine G.inBlock ?_ | refine G.label ?_) | ((with_reducible show GL _ _ _ _ (_ :: _) _ _ _ _); first | refine GL.p ?_ | refine GL.pK ?_ | refine GL.store ?_ | refine GL.storeN ?_ | refine GL.boxA (fun g => ?_) | refine GL.box1 (fun g => ?_) | refine GL.alloc1 rfl (fun g => ?_) | refine GL.allocA (fun g => ?_) | refine GL.no ?_) | ((with_reducible show G _ _ _ (Item.code (Code.cond _ _ _) :: _) _ _ _); first | refine G.condT rfl ?_ | refine G.condF rfl ?_ | refine G.condYes rfl (by omega) ?_ | refine G.condNo rfl (by omega) ?_) | (with_reducible refine G.exit rfl ?_))
    refine G.sub .nil ?_
    refine G.ret2 ok rfl ?_
    exact ⟨_, _, rfl, .inr ⟨⟨by omega, hok⟩, rfl, rfl⟩, rfl⟩
theorem rnum3_calls (A : Option Addr) (c : Nat) (l : List UInt8) (x : Int) (s : Store) (hb : Bs s A l.length c l) (hn : l.length ≤ 100000) (h0 : 0 ≤ x) (hx : x ≤ 1099511627776) :
    Fn Try.prog 46 #[.slice A l.length c, .int .i64 x] s [] (fun e s' h' => ∃ A' c', e = .returned (.tuple #[.slice A' (l ++ venc x.toNat).length c', .int .i64 0]) ∧ h' = [] ∧ Bs s' A' (l ++ venc x.toNat).length c' (l ++ venc x.toNat)) := by
  have := rnumber_fr A l.length c l x.toNat s hb hn (by omega)
  rw [Int.toNat_of_nonneg h0] at this
  rw [List.length_append, venc_length]
  exact this
set_option maxRecDepth 20000 in
set_option maxHeartbeats 16000000 in
theorem bytesTR_calls (h : Hd) (l : List TabD) (s : Store) (hx : Ts s h l) (hsm : ∀ t ∈ l, t.h.n ≤ 2000) : Fn Try.prog 29 #[.slice h.A h.n h.c] s [] (fun e _ h' => ∃ z x, e = .returned (.tuple #[.string z, .int .i64 x]) ∧ BytesIs l z x ∧ h' = []) := by
  have hl := hx.len
  refine Fn.intro (args := [.slice h.A h.n h.c]) Try.func29 rfl Try.ntmps29 (Nat.le_of_ble_eq_true rfl) (fun C ok hh => ?_)
  by_cases h0 : (h.n : Int) ≠ 3
  · repeat (first | (with_reducible first | refine GL.nil ?_ | refine G.region ?_ | refine G.seq ?_ | refine G.skip ?_ | refine G.block ?_ | refine G.inBlock ?_ | refine G.label ?_) | ((with_reducible show GL _ _ _ _ (_ :: _) _ _ _ _); first | refine GL.p ?_ | refine GL.pK ?_ | refine GL.store ?_ | refine GL.storeN ?_ | refine GL.boxA (fun g => ?_) | refine GL.box1 (fun g => ?_) | refine GL.alloc1 rfl (fun g => ?_) | refine GL.allocA (fun g => ?_) | refine GL.no ?_) | ((with_reducible show G _ _ _ (Item.code (Code.cond _ _ _) :: _) _ _ _); first | refine G.condT rfl ?_ | refine G.condF rfl ?_ | refine G.condYes rfl (by omega) ?_ | refine G.condNo rfl (by omega) ?_) | (with_reducible refine G.exit rfl ?_))
    refine G.ret2 ok rfl ?_
    exact ⟨_, _, rfl, .inl ⟨fun hk => h0 (by have := hk.1; omega), rfl, rfl⟩, rfl⟩
  repeat (first | (with_reducible first | refine GL.nil ?_ | refine G.region ?_ | refine G.seq ?_ | refine G.skip ?_ | refine G.block ?_ | refine G.inBlock ?_ | refine G.label ?_) | ((with_reducible show GL _ _ _ _ (_ :: _) _ _ _ _); first | refine GL.p ?_ | refine GL.pK ?_ | refine GL.store ?_ | refine GL.storeN ?_ | refine GL.boxA (fun g => ?_) | refine GL.box1 (fun g => ?_) | refine GL.alloc1 rfl (fun g => ?_) | refine GL.allocA (fun g => ?_) | refine GL.no ?_) | ((with_reducible show G _ _ _ (Item.code (Code.cond _ _ _) :: _) _ _ _); first | refine G.condT rfl ?_ | refine G.condF rfl ?_ | refine G.condYes rfl (by omega) ?_ | refine G.condNo rfl (by omega) ?_) | (with_reducible refine G.exit rfl ?_))
  refine G.loop (fun x : Nat × Option Addr × Nat => [(0, .slice h.A h.n h.c), (4, .slice x.2.1 (aby (l.take x.1)).length x.2.2), (5, .int .i64 x.1)]) (fun x => [])
    (fun x s' => s.le s' ∧ x.1 ≤ h.n ∧ Bs s' x.2.1 (aby (l.take x.1)).length x.2.2 (aby (l.take x.1)) ∧ ∀ t ∈ l.take x.1, t.ok) (fun x => h.n - x.1) (0, none, 0) (by ((repeat' (first | exact trivial | refine And.intro ?_ ?_)); all_goals (first | (refine congrArg some (congrArg (Value.int _) ?_); (try dsimp only); omega) | exact rfl))) .nil ⟨Store.le.refl _, Nat.zero_le _, Sl.nil s 1, fun t ht => by simp at ht⟩ ?_
  rintro ⟨i, A, c⟩ s1 ⟨hle1, hi, hbs, hok⟩ ih
  dsimp only at hi hbs hok ⊢
  replace hx := hx.le hle1
  have hS := hx.sl
  by_cases hlt : (i : Int) < h.n
  · have hat := tab_at l i (by omega)
    obtain ⟨hat0, hat2⟩ := tab_at0 l i (by omega)
    have htk := List.take_succ_eq_append_getElem (l := l) (i := i) (by omega)
    have hmem : l[i]'(by omega) ∈ l := List.getElem_mem _
    generalize l[i]'(by omega) = t at hat hat0 hat2 htk hmem
    have ht := hx.laid t hmem
    have htl := ht.ilen
    have hn := hsm t hmem
    repeat (first | (with_reducible first | refine GL.nil ?_ | refine G.region ?_ | refine G.seq ?_ | refine G.skip ?_ | refine G.block ?_ | refine G.inBlock ?_ | refine G.label ?_) | ((with_reducible show GL _ _ _ _ (_ :: _) _ _ _ _); first | refine GL.p ?_ | refine GL.pK ?_ | refine GL.store ?_ | refine GL.storeN ?_ | refine GL.boxA (fun g => ?_) | refine GL.box1 (fun g => ?_) | refine GL.alloc1 rfl (fun g => ?_) | refine GL.allocA (fun g => ?_) | refine GL.no ?_) | ((with_reducible show G _ _ _ (Item.code (Code.cond _ _ _) :: _) _ _ _); first | refine G.condT rfl ?_ | refine G.condF rfl ?_ | refine G.condYes rfl (by omega) ?_ | refine G.condNo rfl (by omega) ?_) | (with_reducible refine G.exit rfl ?_))
    refine GL.call rfl rfl (tcheckR_calls t s1 ht) .nil fun v s2 h1' hq hle => ?_
    obtain ⟨x, e1, hx', hs1, rfl⟩ := hq
    subst s2
    cases e1
    rw [List.nil_append]
    rcases hx' with ⟨rfl, hk⟩ | ⟨rfl, hk⟩
    rotate_left
    · repeat (first | (with_reducible first | refine GL.nil ?_ | refine G.region ?_ | refine G.seq ?_ | refine G.skip ?_ | refine G.block ?_ | refine G.inBlock ?_ | refine G.label ?_) | ((with_reducible show GL _ _ _ _ (_ :: _) _ _ _ _); first | refine GL.p ?_ | refine GL.pK ?_ | refine GL.store ?_ | refine GL.storeN ?_ | refine GL.boxA (fun g => ?_) | refine GL.box1 (fun g => ?_) | refine GL.alloc1 rfl (fun g => ?_) | refine GL.allocA (fun g => ?_) | refine GL.no ?_) | ((with_reducible show G _ _ _ (Item.code (Code.cond _ _ _) :: _) _ _ _); first | refine G.condT rfl ?_ | refine G.condF rfl ?_ | refine G.condYes rfl (by omega) ?_ | refine G.condNo rfl (by omega) ?_) | (with_reducible refine G.exit rfl ?_))
      refine G.ret2 ok rfl ?_
      exact ⟨_, _, rfl, .inl ⟨fun h' => hk (h'.2 t hmem), rfl, rfl⟩, rfl⟩
    have k0 := hk.st
    have k1 := hk.se
    have k2 := hk.en
    have hbl : (aby (l.take i)).length ≤ 36300 := by
      have := aby_len (l := l.take i) (s := s1) (fun x hx' => hx.laid x (List.mem_of_mem_take hx')) hok (fun x hx' => hsm x (List.mem_of_mem_take hx'))
      have h5 : (l.take i).length ≤ 3 := by rw [List.length_take]; omega
      omega
    have hnext : aby (l.take (i + 1)) = aby (l.take i) ++ venc t.st.toNat ++ venc (t.h.n : Int).toNat ++ dby t.l t.h.n := by
      rw [htk, aby_snoc, tby, Int.toNat_natCast, htl, List.append_assoc, List.append_assoc, List.append_assoc]
    have hoknext : ∀ x ∈ l.take (i + 1), x.ok := fun x hx' => by
      rw [htk] at hx'
      rcases List.mem_append.1 hx' with h' | h'
      · exact hok x h'
      · obtain rfl : x = t := by simpa using h'
        exact hk
    generalize aby (l.take i) = B at hbs hbl hnext
    have hv1 : (venc t.st.toNat).length ≤ 6 := by rw [venc_length]; exact vlen_le _ (by omega)
    have hv2 : (venc (t.h.n : Int).toNat).length ≤ 6 := by rw [venc_length]; exact vlen_le _ (by omega)
    repeat (first | (with_reducible first | refine GL.nil ?_ | refine G.region ?_ | refine G.seq ?_ | refine G.skip ?_ | refine G.block ?_ | refine G.inBlock ?_ | refine G.label ?_) | ((with_reducible show GL _ _ _ _ (_ :: _) _ _ _ _); first | refine GL.p ?_ | refine GL.pK ?_ | refine GL.store ?_ | refine GL.storeN ?_ | refine GL.boxA (fun g => ?_) | refine GL.box1 (fun g => ?_) | refine GL.alloc1 rfl (fun g => ?_) | refine GL.allocA (fun g => ?_) | refine GL.no ?_) | ((with_reducible show G _ _ _ (Item.code (Code.cond _ _ _) :: _) _ _ _); first | refine G.condT rfl ?_ | refine G.condF rfl ?_ | refine G.condYes rfl (by omega) ?_ | refine G.condNo rfl (by omega) ?_) | (with_reducible refine G.exit rfl ?_))
    refine GL.call rfl rfl (rnum3_calls A c B t.st s1 hbs (by omega) (by omega) (by omega)) .nil fun v s2 h1 hq hle2 => ?_
    obtain ⟨A1, c1, e1, rfl, hb1⟩ := hq
    cases e1
    rw [List.nil_append]
    have hS2 := hS.le hle2
    repeat (first | (with_reducible first | refine GL.nil ?_ | refine G.region ?_ | refine G.seq ?_ | refine G.skip ?_ | refine G.block ?_ | refine G.inBlock ?_ | refine G.label ?_) | ((with_reducible show GL _ _ _ _ (_ :: _) _ _ _ _); first | refine GL.p ?_ | refine GL.pK ?_ | refine GL.store ?_ | refine GL.storeN ?_ | refine GL.boxA (fun g => ?_) | refine GL.box1 (fun g => ?_) | refine GL.alloc1 rfl (fun g => ?_) | refine GL.allocA (fun g => ?_) | refine GL.no ?_) | ((with_reducible show G _ _ _ (Item.code (Code.cond _ _ _) :: _) _ _ _); first | refine G.condT rfl ?_ | refine G.condF rfl ?_ | refine G.condYes rfl (by omega) ?_ | refine G.condNo rfl (by omega) ?_) | (with_reducible refine G.exit rfl ?_))
    refine GL.call rfl rfl (rnum3_calls A1 c1 _ (t.h.n : Int) s2 hb1 (by rw [List.length_append]; omega) (by omega) (by omega)) .nil fun v s3 h1 hq hle3 => ?_
    obtain ⟨A2, c2, e1, rfl, hb2⟩ := hq
    cases e1
    rw [List.nil_append]
    have hle13 := hle2.trans hle3
    have hbl2 : (B ++ venc t.st.toNat ++ venc (t.h.n : Int).toNat).length ≤ 36400 := by rw [List.length_append, List.length_append]; omega
    generalize B ++ venc t.st.toNat ++ venc (t.h.n : Int).toNat = B2 at hb2 hbl2 hnext
    repeat (first | (with_reducible first | refine GL.nil ?_ | refine G.region ?_ | refine G.seq ?_ | refine G.skip ?_ | refine G.block ?_ | refine G.inBlock ?_ | refine G.label ?_) | ((with_reducible show GL _ _ _ _ (_ :: _) _ _ _ _); first | refine GL.p ?_ | refine GL.pK ?_ | refine GL.store ?_ | refine GL.storeN ?_ | refine GL.boxA (fun g => ?_) | refine GL.box1 (fun g => ?_) | refine GL.alloc1 rfl (fun g => ?_) | refine GL.allocA (fun g => ?_) | refine GL.no ?_) | ((with_reducible show G _ _ _ (Item.code (Code.cond _ _ _) :: _) _ _ _); first | refine G.condT rfl ?_ | refine G.condF rfl ?_ | refine G.condYes rfl (by omega) ?_ | refine G.condNo rfl (by omega) ?_) | (with_reducible refine G.exit rfl ?_))
    refine G.loop (fun x : Nat × Option Addr × Nat => [(0, .slice h.A h.n h.c), (4, .slice x.2.1 (B2 ++ dby t.l x.1).length x.2.2), (5, .int .i64 i), (6, .int .i64 (ahead t.l x.1)), (7, .int .i64 x.1)]) (fun x => [])
      (fun x s' => s3.le s' ∧ x.1 ≤ t.h.n ∧ Bs s' x.2.1 (B2 ++ dby t.l x.1).length x.2.2 (B2 ++ dby t.l x.1)) (fun x => t.h.n - x.1) (0, A2, c2) (by dsimp only [dby]; rw [List.append_nil]; ((repeat' (first | exact trivial | refine And.intro ?_ ?_)); all_goals (first | (refine congrArg some (congrArg (Value.int _) ?_); (try dsimp only); omega) | exact rfl))) .nil ⟨Store.le.refl _, Nat.zero_le _, by dsimp only [dby]; rw [List.append_nil]; exact hb2⟩ ?_
    rintro ⟨k, A3, c3⟩ s4 ⟨hle4, hkk, hb3⟩ ih2
    dsimp only at hkk hb3 ⊢
    have ht4 := ht.le (hle13.trans hle4)
    have hS4 := hS.le (hle13.trans hle4)
    have hdl := dby_len hk k hkk
    by_cases hlt2 : (k : Int) < t.h.n
    · have hat3 := icells_at t.l k (by omega)
      have hst := hk.step k (by omega)
      repeat (first | (with_reducible first | refine GL.nil ?_ | refine G.region ?_ | refine G.seq ?_ | refine G.skip ?_ | refine G.block ?_ | refine G.inBlock ?_ | refine G.label ?_) | ((with_reducible show GL _ _ _ _ (_ :: _) _ _ _ _); first | refine GL.p ?_ | refine GL.pK ?_ | refine GL.store ?_ | refine GL.storeN ?_ | refine GL.boxA (fun g => ?_) | refine GL.box1 (fun g => ?_) | refine GL.alloc1 rfl (fun g => ?_) | refine GL.allocA (fun g => ?_) | refine GL.no ?_) | ((with_reducible show G _ _ _ (Item.code (Code.cond _ _ _) :: _) _ _ _); first | refine G.condT rfl ?_ | refine G.condF rfl ?_ | refine G.condYes rfl (by omega) ?_ | refine G.condNo rfl (by omega) ?_) | (with_reducible refine G.exit rfl ?_))
      refine GL.call rfl rfl (rnum3_calls A3 c3 _ (nth t.l k - ahead t.l k) s4 hb3 (by rw [List.length_append]; omega) (by omega) (by omega)) .nil fun v s5 h1 hq hle5 => ?_
      obtain ⟨A4, c4, e1, rfl, hb4⟩ := hq
      cases e1
      rw [List.nil_append]
      rw [List.append_assoc] at hb4 ⊢
      have hS5 := hS4.le hle5
      have ht5 := ht4.le hle5
      repeat (first | (with_reducible first | refine GL.nil ?_ | refine G.region ?_ | refine G.seq ?_ | refine G.skip ?_ | refine G.block ?_ | refine G.inBlock ?_ | refine G.label ?_) | ((with_reducible show GL _ _ _ _ (_ :: _) _ _ _ _); first | refine GL.p ?_ | refine GL.pK ?_ | refine GL.store ?_ | refine GL.storeN ?_ | refine GL.boxA (fun g => ?_) | refine GL.box1 (fun g => ?_) | refine GL.alloc1 rfl (fun g => ?_) | refine GL.allocA (fun g => ?_) | refine GL.no ?_) | ((with_reducible show G _ _ _ (Item.code (Code.cond _ _ _) :: _) _ _ _); first | refine G.condT rfl ?_ | refine G.condF rfl ?_ | refine G.condYes rfl (by omega) ?_ | refine G.condNo rfl (by omega) ?_) | (with_reducible refine G.exit rfl ?_))
      refine ih2 (k + 1, A4, c4) _ _ _ _ (by ((repeat' (first | exact trivial | refine And.intro ?_ ?_)); all_goals (first | (refine congrArg some (congrArg (Value.int _) ?_); (try dsimp only); omega) | exact rfl))) .nil ⟨hle4.trans hle5, by dsimp only; omega, hb4⟩ (by dsimp only; omega)
    · obtain rfl : k = t.h.n := by omega
      rw [← hnext] at hb3 ⊢
      repeat (first | (with_reducible first | refine GL.nil ?_ | refine G.region ?_ | refine G.seq ?_ | refine G.skip ?_ | refine G.block ?_ | refine G.inBlock ?_ | refine G.label ?_) | ((with_reducible show GL _ _ _ _ (_ :: _) _ _ _ _); first | refine GL.p ?_ | refine GL.pK ?_ | refine GL.store ?_ | refine GL.storeN ?_ | refine GL.boxA (fun g => ?_) | refine GL.box1 (fun g => ?_) | refine GL.alloc1 rfl (fun g => ?_) | refine GL.allocA (fun g => ?_) | refine GL.no ?_) | ((with_reducible show G _ _ _ (Item.code (Code.cond _ _ _) :: _) _ _ _); first | refine G.condT rfl ?_ | refine G.condF rfl ?_ | refine G.condYes rfl (by omega) ?_ | refine G.condNo rfl (by omega) ?_) | (with_reducible refine G.exit rfl ?_))
      refine ih (i + 1, A3, c3) _ _ _ _ (by ((repeat' (first | exact trivial | refine And.intro ?_ ?_)); all_goals (first | (refine congrArg some (congrArg (Value.int _) ?_); (try dsimp only); omega) | exact rfl))) .nil ⟨hle1.trans (hle13.trans hle4), by dsimp only; omega, hb3, hoknext⟩ (by dsimp only; omega)
  · rw [List.take_of_length_le (by omega)] at hbs hok ⊢
    repeat (first | (with_reducible first | refine GL.nil ?_ | refine G.region ?_ | refine G.seq ?_ | refine G.skip ?_ | refine G.block ?_ | refine G.inBlock ?_ | refine G.label ?_) | ((with_reducible show GL _ _ _ _ (_ :: _) _ _ _ _); first | refine GL.p ?_ | refine GL.pK ?_ | refine GL.store ?_ | refine GL.storeN ?_ | refine GL.boxA (fun g => ?_) | refine GL.box1 (fun g => ?_) | refine GL.alloc1 rfl (fun g => ?_) | refine GL.allocA (fun g => ?_) | refine GL.no ?_) | ((with_reducible show G _ _ _ (Item.code (Code.cond _ _ _) :: _) _ _ _); first | refine G.condT rfl ?_ | refine G.condF rfl ?_ | refine G.condYes rfl (by omega) ?_ | refine G.condNo rfl (by omega) ?_) | (with_reducible refine G.exit rfl ?_))
    refine G.ret2 ok rfl ?_
    exact ⟨_, _, rfl, .inr ⟨⟨by omega, hok⟩, rfl, rfl⟩, rfl⟩
end Go.Proofs.Ytnndjobhcncanaa
