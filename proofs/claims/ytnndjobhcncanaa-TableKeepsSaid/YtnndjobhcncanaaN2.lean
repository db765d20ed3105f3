/- The document's answer to writing: numbers, texts, flags. No statement of the seat is proved here. -/
import Derived.Test.YtnndjobhcncanaaQ3
import Derived.Test.YtnndjobhcncanaaN1
namespace Go.Proofs.Ytnndjobhcncanaa
open Go.RowKit
theorem u8cell2 (m : Nat) : Value.int .u8 ((128 + ((m % 128 : Nat) : Int)) % 256) = .int .u8 ((UInt8.ofNat (128 + m % 128)).toNat : Nat) := by
  congr 1
theorem u8last2 (m : Nat) : Value.int .u8 ((m : Int) % 256) = .int .u8 ((UInt8.ofNat m).toNat : Nat) := by
  congr 1
theorem rput_no (A : Option Addr) (n c : Nat) (x : Int) (s : Store) (hx : ¬ (0 ≤ x ∧ x ≤ 1099511627776)) :
    Fn Try.prog 62 #[.slice A n c, .int .i64 x] s [] (fun e s' h' => e = .returned (.tuple #[.slice none 0 0, .int .i64 2]) ∧ s' = s ∧ h' = []) := by
  refine Fn.intro (args := [.slice A n c, .int .i64 x]) Try.func62 rfl Try.ntmps62 (Nat.le_of_ble_eq_true rfl) (fun C ok hh => ?_)
  by_cases h0 : x < 0
  all_goals
    repeat (first | (with_reducible first | refine GL.nil ?_ | refine G.region ?_ | refine G.seq ?_ | refine G.skip ?_ | refine G.block ?_ | refine G.inBlock ?_ | refine G.label ?_) | ((with_reducible show GL _ _ _ _ (_ :: _) _ _ _ _); first | refine GL.p ?_ | refine GL.pK ?_ | refine GL.store ?_ | refine GL.storeN ?_ | refine GL.boxA (fun g => ?_) | refine GL.box1 (fun g => ?_) | refine GL.alloc1 rfl (fun g => ?_) | refine GL.allocA (fun g => ?_) | refine GL.no ?_) | ((with_reducible show G _ _ _ (Item.code (Code.cond _ _ _) :: _) _ _ _); first | refine G.condT rfl ?_ | refine G.condF rfl ?_ | refine G.condYes rfl (by omega) ?_ | refine G.condNo rfl (by omega) ?_) | (with_reducible refine G.exit rfl ?_))
    refine G.ret2 ok rfl ?_
    exact ⟨rfl, rfl, rfl⟩
set_option maxHeartbeats 8000000 in
theorem rput_ok (A : Option Addr) (n c : Nat) (l : List UInt8) (x : Nat) (s : Store) (hb : Bs s A n c l) (hn : n ≤ 100000) (hx : x ≤ 1099511627776) :
    Fn Try.prog 62 #[.slice A n c, .int .i64 x] s [] (fun e _ h' => ∃ A' c', e = .returned (.tuple #[.slice A' (n + vlen x) c', .int .i64 0]) ∧ h' = [.buf (.slice A' (n + vlen x) c') 5 1 (n + vlen x) (bcells (l ++ venc x))]) := by
  have hc := hb.cap
  have hl6 := vlen_le x hx
  have hl1 := vlen_pos x
  refine Fn.intro (args := [.slice A n c, .int .i64 x]) Try.func62 rfl Try.ntmps62 (Nat.le_of_ble_eq_true rfl) (fun C ok hh => ?_)
  repeat (first | (with_reducible first | refine GL.nil ?_ | refine G.region ?_ | refine G.seq ?_ | refine G.skip ?_ | refine G.block ?_ | refine G.inBlock ?_ | refine G.label ?_) | ((with_reducible show GL _ _ _ _ (_ :: _) _ _ _ _); first | refine GL.p ?_ | refine GL.pK ?_ | refine GL.store ?_ | refine GL.storeN ?_ | refine GL.boxA (fun g => ?_) | refine GL.box1 (fun g => ?_) | refine GL.alloc1 rfl (fun g => ?_) | refine GL.allocA (fun g => ?_) | refine GL.no ?_) | ((with_reducible show G _ _ _ (Item.code (Code.cond _ _ _) :: _) _ _ _); first | refine G.condT rfl ?_ | refine G.condF rfl ?_ | refine G.condYes rfl (by omega) ?_ | refine G.condNo rfl (by omega) ?_) | (with_reducible refine G.exit rfl ?_))
  refine GL.nilbuf 5 1 ?_
  refine GL.appS rfl rfl (Src.of_sl hb (bcells_one l)) (by omega) (by omega) fun A2 c2 => ?_
  rw [List.nil_append, Nat.zero_add]
  repeat (first | (with_reducible first | refine GL.nil ?_ | refine G.region ?_ | refine G.seq ?_ | refine G.skip ?_ | refine G.block ?_ | refine G.inBlock ?_ | refine G.label ?_) | ((with_reducible show GL _ _ _ _ (_ :: _) _ _ _ _); first | refine GL.p ?_ | refine GL.pK ?_ | refine GL.store ?_ | refine GL.storeN ?_ | refine GL.boxA (fun g => ?_) | refine GL.box1 (fun g => ?_) | refine GL.alloc1 rfl (fun g => ?_) | refine GL.allocA (fun g => ?_) | refine GL.no ?_) | ((with_reducible show G _ _ _ (Item.code (Code.cond _ _ _) :: _) _ _ _); first | refine G.condT rfl ?_ | refine G.condF rfl ?_ | refine G.condYes rfl (by omega) ?_ | refine G.condNo rfl (by omega) ?_) | (with_reducible refine G.exit rfl ?_))
  refine G.loop (fun y : Nat × Option Addr × Nat × List UInt8 => [(1, .int .i64 y.1), (6, .slice y.2.1 (n + y.2.2.2.length) y.2.2.1)]) (fun y => [.buf (.slice y.2.1 (n + y.2.2.2.length) y.2.2.1) 5 1 (n + y.2.2.2.length) (bcells (l ++ y.2.2.2))])
    (fun y s' => s.le s' ∧ y.1 ≤ 1099511627776 ∧ y.2.2.2 ++ venc y.1 = venc x) (fun y => y.1) (x, A2, c2, []) (by ((repeat' (first | exact trivial | refine And.intro ?_ ?_)); all_goals (first | (refine congrArg some (congrArg (Value.int _) ?_); (try dsimp only); omega) | exact rfl))) (by rw [List.append_nil]; (first | exact Split.refl _ | ((try dsimp only); repeat (first | exact Split.nil | (apply Split.cons; (repeat (first | exact Pick.head | apply Pick.tail))))))) ⟨Store.le.refl _, hx, rfl⟩ ?_
  rintro ⟨m, A3, c3, w⟩ s' ⟨hs', hm, hv⟩ ih
  dsimp only at hm hv ⊢
  have hw6 : w.length + vlen m = vlen x := by rw [← venc_length, ← venc_length, ← hv, List.length_append]
  have hm1 := vlen_pos m
  by_cases hp : 128 ≤ m
  · have hwe : bcells (l ++ w) ++ [Value.int .u8 ((128 + ((m % 128 : Nat) : Int)) % 256)] = bcells (l ++ (w ++ [UInt8.ofNat (128 + m % 128)])) := by
      rw [u8cell2, ← List.append_assoc, bcells_append (l ++ w)]
      rfl
    have hv2 : (w ++ [UInt8.ofNat (128 + m % 128)]) ++ venc (m / 128) = venc x := by rw [← hv, venc_step m hp, List.append_assoc]; rfl
    repeat (first | (with_reducible first | refine GL.nil ?_ | refine G.region ?_ | refine G.seq ?_ | refine G.skip ?_ | refine G.block ?_ | refine G.inBlock ?_ | refine G.label ?_) | ((with_reducible show GL _ _ _ _ (_ :: _) _ _ _ _); first | refine GL.p ?_ | refine GL.pK ?_ | refine GL.store ?_ | refine GL.storeN ?_ | refine GL.boxA (fun g => ?_) | refine GL.box1 (fun g => ?_) | refine GL.alloc1 rfl (fun g => ?_) | refine GL.allocA (fun g => ?_) | refine GL.no ?_) | ((with_reducible show G _ _ _ (Item.code (Code.cond _ _ _) :: _) _ _ _); first | refine G.condT rfl ?_ | refine G.condF rfl ?_ | refine G.condYes rfl (by omega) ?_ | refine G.condNo rfl (by omega) ?_) | (with_reducible refine G.exit rfl ?_))
    refine GL.lit1 rfl fun A1 s2 hle1 hs2 => ?_
    refine GL.appS rfl rfl (Src.of_sl hs2 (by simp [Value.oneCell'])) (by omega) (by omega) fun A4 c4 => ?_
    rw [hwe]
    repeat (first | (with_reducible first | refine GL.nil ?_ | refine G.region ?_ | refine G.seq ?_ | refine G.skip ?_ | refine G.block ?_ | refine G.inBlock ?_ | refine G.label ?_) | ((with_reducible show GL _ _ _ _ (_ :: _) _ _ _ _); first | refine GL.p ?_ | refine GL.pK ?_ | refine GL.store ?_ | refine GL.storeN ?_ | refine GL.boxA (fun g => ?_) | refine GL.box1 (fun g => ?_) | refine GL.alloc1 rfl (fun g => ?_) | refine GL.allocA (fun g => ?_) | refine GL.no ?_) | ((with_reducible show G _ _ _ (Item.code (Code.cond _ _ _) :: _) _ _ _); first | refine G.condT rfl ?_ | refine G.condF rfl ?_ | refine G.condYes rfl (by omega) ?_ | refine G.condNo rfl (by omega) ?_) | (with_reducible refine G.exit rfl ?_))
    have hlen : n + w.length + 1 = n + (w ++ [UInt8.ofNat (128 + m % 128)]).length := by rw [List.length_append]; simp; omega
    rw [hlen]
    refine ih (m / 128, A4, c4, w ++ [UInt8.ofNat (128 + m % 128)]) _ _ _ _ (by ((repeat' (first | exact trivial | refine And.intro ?_ ?_)); all_goals (first | (refine congrArg some (congrArg (Value.int _) ?_); (try dsimp only); omega) | exact rfl))) (by (first | exact Split.refl _ | ((try dsimp only); repeat (first | exact Split.nil | (apply Split.cons; (repeat (first | exact Pick.head | apply Pick.tail))))))) ⟨hs'.trans hle1, ?_, hv2⟩ ?_ <;> dsimp only <;> omega
  · have hst := vlen_one m (by omega)
    have hwe : bcells (l ++ w) ++ [Value.int .u8 ((m : Int) % 256)] = bcells (l ++ venc x) := by
      rw [u8last2, ← hv, venc_one m (by omega), ← List.append_assoc, bcells_append (l ++ w)]
      rfl
    repeat (first | (with_reducible first | refine GL.nil ?_ | refine G.region ?_ | refine G.seq ?_ | refine G.skip ?_ | refine G.block ?_ | refine G.inBlock ?_ | refine G.label ?_) | ((with_reducible show GL _ _ _ _ (_ :: _) _ _ _ _); first | refine GL.p ?_ | refine GL.pK ?_ | refine GL.store ?_ | refine GL.storeN ?_ | refine GL.boxA (fun g => ?_) | refine GL.box1 (fun g => ?_) | refine GL.alloc1 rfl (fun g => ?_) | refine GL.allocA (fun g => ?_) | refine GL.no ?_) | ((with_reducible show G _ _ _ (Item.code (Code.cond _ _ _) :: _) _ _ _); first | refine G.condT rfl ?_ | refine G.condF rfl ?_ | refine G.condYes rfl (by omega) ?_ | refine G.condNo rfl (by omega) ?_) | (with_reducible refine G.exit rfl ?_))
    refine GL.lit1 rfl fun A1 s2 hle1 hs2 => ?_
    refine GL.appS rfl rfl (Src.of_sl hs2 (by simp [Value.oneCell'])) (by omega) (by omega) fun A4 c4 => ?_
    rw [hwe, show n + w.length + 1 = n + vlen x by omega]
    repeat (first | (with_reducible first | refine GL.nil ?_ | refine G.region ?_ | refine G.seq ?_ | refine G.skip ?_ | refine G.block ?_ | refine G.inBlock ?_ | refine G.label ?_) | ((with_reducible show GL _ _ _ _ (_ :: _) _ _ _ _); first | refine GL.p ?_ | refine GL.pK ?_ | refine GL.store ?_ | refine GL.storeN ?_ | refine GL.boxA (fun g => ?_) | refine GL.box1 (fun g => ?_) | refine GL.alloc1 rfl (fun g => ?_) | refine GL.allocA (fun g => ?_) | refine GL.no ?_) | ((with_reducible show G _ _ _ (Item.code (Code.cond _ _ _) :: _) _ _ _); first | refine G.condT rfl ?_ | refine G.condF rfl ?_ | refine G.condYes rfl (by omega) ?_ | refine G.condNo rfl (by omega) ?_) | (with_reducible refine G.exit rfl ?_))
    refine G.ret2 ok rfl ?_
    exact ⟨_, _, rfl, rfl⟩
theorem rput_fr (A : Option Addr) (n c : Nat) (l : List UInt8) (x : Nat) (s : Store) (hb : Bs s A n c l) (hn : n ≤ 100000) (hx : x ≤ 1099511627776) :
    Fn Try.prog 62 #[.slice A n c, .int .i64 x] s [] (fun e s' h' => ∃ A' c', e = .returned (.tuple #[.slice A' (n + vlen x) c', .int .i64 0]) ∧ h' = [] ∧ Bs s' A' (n + vlen x) c' (l ++ venc x)) := Fn.frozen (rput_ok A n c l x s hb hn hx)
theorem rnumber_no (A : Option Addr) (n c : Nat) (x : Int) (s : Store) (hx : ¬ (0 ≤ x ∧ x ≤ 1099511627776)) :
    Fn Try.prog 46 #[.slice A n c, .int .i64 x] s [] (fun e s' h' => e = .returned (.tuple #[.slice none 0 0, .int .i64 2]) ∧ s' = s ∧ h' = []) := by
  refine Fn.intro (args := [.slice A n c, .int .i64 x]) Try.func46 rfl Try.ntmps46 (Nat.le_of_ble_eq_true rfl) (fun C ok hh => ?_)
  repeat (first | (with_reducible first | refine GL.nil ?_ | refine G.region ?_ | refine G.seq ?_ | refine G.skip ?_ | refine G.block ?_ | refine G.inBlock ?_ | refine G.label ?_) | ((with_reducible show GL _ _ _ _ (_ :: _) _ _ _ _); first | refine GL.p ?_ | refine GL.pK ?_ | refine GL.store ?_ | refine GL.storeN ?_ | refine GL.boxA (fun g => ?_) | refine GL.box1 (fun g => ?_) | refine GL.alloc1 rfl (fun g => ?_) | refine GL.allocA (fun g => ?_) | refine GL.no ?_) | ((with_reducible show G _ _ _ (Item.code (Code.cond _ _ _) :: _) _ _ _); first | refine G.condT rfl ?_ | refine G.condF rfl ?_ | refine G.condYes rfl (by omega) ?_ | refine G.condNo rfl (by omega) ?_) | (with_reducible refine G.exit rfl ?_))
  refine GL.call rfl rfl (rput_no _ _ _ _ _ hx) .nil fun v s1 h1 hp hle => ?_; obtain ⟨e1, hs1, rfl⟩ := hp; subst s1; cases e1; rw [List.nil_append]
  repeat (first | (with_reducible first | refine GL.nil ?_ | refine G.region ?_ | refine G.seq ?_ | refine G.skip ?_ | refine G.block ?_ | refine G.inBlock ?_ | refine G.label ?_) | ((with_reducible show GL _ _ _ _ (_ :: _) _ _ _ _); first | refine GL.p ?_ | refine GL.pK ?_ | refine GL.store ?_ | refine GL.storeN ?_ | refine GL.boxA (fun g => ?_) | refine GL.box1 (fun g => ?_) | refine GL.alloc1 rfl (fun g => ?_) | refine GL.allocA (fun g => ?_) | refine GL.no ?_) | ((with_reducible show G _ _ _ (Item.code (Code.cond _ _ _) :: _) _ _ _); first | refine G.condT rfl ?_ | refine G.condF rfl ?_ | refine G.condYes rfl (by omega) ?_ | refine G.condNo rfl (by omega) ?_) | (with_reducible refine G.exit rfl ?_))
  refine G.ret2 ok rfl ?_
  exact ⟨rfl, rfl, rfl⟩
theorem rnumber_fr (A : Option Addr) (n c : Nat) (l : List UInt8) (x : Nat) (s : Store) (hb : Bs s A n c l) (hn : n ≤ 100000) (hx : x ≤ 1099511627776) :
    Fn Try.prog 46 #[.slice A n c, .int .i64 x] s [] (fun e s' h' => ∃ A' c', e = .returned (.tuple #[.slice A' (n + vlen x) c', .int .i64 0]) ∧ h' = [] ∧ Bs s' A' (n + vlen x) c' (l ++ venc x)) := by
  refine Fn.intro (args := [.slice A n c, .int .i64 x]) Try.func46 rfl Try.ntmps46 (Nat.le_of_ble_eq_true rfl) (fun C ok hh => ?_)
  repeat (first | (with_reducible first | refine GL.nil ?_ | refine G.region ?_ | refine G.seq ?_ | refine G.skip ?_ | refine G.block ?_ | refine G.inBlock ?_ | refine G.label ?_) | ((with_reducible show GL _ _ _ _ (_ :: _) _ _ _ _); first | refine GL.p ?_ | refine GL.pK ?_ | refine GL.store ?_ | refine GL.storeN ?_ | refine GL.boxA (fun g => ?_) | refine GL.box1 (fun g => ?_) | refine GL.alloc1 rfl (fun g => ?_) | refine GL.allocA (fun g => ?_) | refine GL.no ?_) | ((with_reducible show G _ _ _ (Item.code (Code.cond _ _ _) :: _) _ _ _); first | refine G.condT rfl ?_ | refine G.condF rfl ?_ | refine G.condYes rfl (by omega) ?_ | refine G.condNo rfl (by omega) ?_) | (with_reducible refine G.exit rfl ?_))
  refine GL.call rfl rfl (rput_fr _ _ _ l x _ hb hn hx) .nil fun v s1 h1 hp hle => ?_; obtain ⟨A1, c1, e1, rfl, hs1⟩ := hp; cases e1; rw [List.nil_append]
  repeat (first | (with_reducible first | refine GL.nil ?_ | refine G.region ?_ | refine G.seq ?_ | refine G.skip ?_ | refine G.block ?_ | refine G.inBlock ?_ | refine G.label ?_) | ((with_reducible show GL _ _ _ _ (_ :: _) _ _ _ _); first | refine GL.p ?_ | refine GL.pK ?_ | refine GL.store ?_ | refine GL.storeN ?_ | refine GL.boxA (fun g => ?_) | refine GL.box1 (fun g => ?_) | refine GL.alloc1 rfl (fun g => ?_) | refine GL.allocA (fun g => ?_) | refine GL.no ?_) | ((with_reducible show G _ _ _ (Item.code (Code.cond _ _ _) :: _) _ _ _); first | refine G.condT rfl ?_ | refine G.condF rfl ?_ | refine G.condYes rfl (by omega) ?_ | refine G.condNo rfl (by omega) ?_) | (with_reducible refine G.exit rfl ?_))
  refine G.ret2 ok rfl ?_
  exact ⟨_, _, rfl, rfl, hs1⟩
end Go.Proofs.Ytnndjobhcncanaa
