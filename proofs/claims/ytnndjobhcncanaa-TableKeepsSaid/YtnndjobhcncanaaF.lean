/- The bytes' side: what is written. No statement of the seat is proved here. -/
import Derived.Test.YtnndjobhcncanaaE
import Derived.Test.YtnndjobhcncanaaV
namespace Go.Proofs.Ytnndjobhcncanaa
open Go.RowKit
abbrev bcells (l : List UInt8) : List Value := l.map fun b => .int .u8 b.toNat
theorem bcells_append (l l' : List UInt8) : bcells (l ++ l') = bcells l ++ bcells l' := by simp [bcells]
theorem bcells_one (l : List UInt8) : ∀ u ∈ bcells l, u.oneCell' = true := by
  intro u hu
  obtain ⟨b, _, rfl⟩ := List.mem_map.1 hu
  rfl
/-- A slice of bytes that never changes. -/
abbrev Bs (s : Store) (A : Option Addr) (n c : Nat) (l : List UInt8) : Prop := Sl s A n c 1 (bcells l)
theorem Sl.recap {s : Store} {A : Option Addr} {n c c' sz : Nat} {cs : List Value} (h : Sl s A n c sz cs) (h1 : n ≤ c') (h2 : c' ≤ c) : Sl s A n c' sz cs := ⟨h.len, h1, by have := h.max; omega, h.at_⟩

/-- What is handed back owned may be handed back as what never changes. -/
theorem Fn.frozen {P : Program} {g : FuncId} {args : Array Value} {s : Store} {h : List Ent} {E : Option Addr → Nat → Ending} {tt sz n : Nat} {xs : List Value} (H : Fn P g args s h (fun e _ h' => ∃ A c, e = E A c ∧ h' = [.buf (.slice A n c) tt sz n xs])) :
    Fn P g args s h (fun e s' h' => ∃ A c, e = E A c ∧ h' = [] ∧ Sl s' A n c sz xs) := by
  intro w m
  refine (H w m).mono fun e w' hp => ?_
  obtain ⟨s', h', ⟨A, c, rfl, rfl⟩, hc⟩ := hp
  obtain ⟨s2, c1, c2, c3⟩ := hc.freezeBuf
  exact ⟨s2, [], ⟨A, c, rfl, rfl, sl_of_buf c3⟩, c1⟩
/-- varint.Len. -/
def vlenI (n : Int) : Int := if 0 ≤ n ∧ n ≤ 1099511627776 then vlen n.toNat else 0
theorem vlenI_no {n : Int} (h : ¬ (0 ≤ n ∧ n ≤ 1099511627776)) : vlenI n = 0 := if_neg h
theorem vlenI_yes {n : Int} (h0 : 0 ≤ n) (h1 : n ≤ 1099511627776) : vlenI n = vlen n.toNat := if_pos ⟨h0, h1⟩
theorem vlen_calls (n : Int) (s : Store) : Fn Try.prog 67 #[.int .i64 n] s [] (fun e s' h' => e = .returned (.int .i64 (vlenI n)) ∧ h' = [] ∧ s' = s) := by
  refine Fn.intro (args := [.int .i64 n]) Try.func67 rfl Try.ntmps67 (Nat.le_of_ble_eq_true rfl) (fun C ok hh => ?_)
  by_cases h0 : n < 0
  · repeat (first | (with_reducible first | refine GL.nil ?_ | refine G.region ?_ | refine G.seq ?_ | refine G.skip ?_ | refine G.block ?_ | refine G.inBlock ?_ | refine G.label ?_) | ((with_reducible show GL _ _ _ _ (_ :: _) _ _ _ _); first | refine GL.p ?_ | refine GL.pK ?_ | refine GL.store ?_ | refine GL.storeN ?_ | refine GL.boxA (fun g => ?_) | refine GL.box1 (fun g => ?_) | refine GL.alloc1 rfl (fun g => ?_) | refine GL.allocA (fun g => ?_) | refine GL.no ?_) | ((with_reducible show G _ _ _ (Item.code (Code.cond _ _ _) :: _) _ _ _); first | refine G.condT rfl ?_ | refine G.condF rfl ?_ | refine G.condYes rfl (by omega) ?_ | refine G.condNo rfl (by omega) ?_) | (with_reducible refine G.exit rfl ?_))
    refine G.ret1 ok rfl ?_
    exact ⟨by rw [vlenI_no (by omega)], rfl, rfl⟩
  by_cases h1 : 1099511627776 < n
  · repeat (first | (with_reducible first | refine GL.nil ?_ | refine G.region ?_ | refine G.seq ?_ | refine G.skip ?_ | refine G.block ?_ | refine G.inBlock ?_ | refine G.label ?_) | ((with_reducible show GL _ _ _ _ (_ :: _) _ _ _ _); first | refine GL.p ?_ | refine GL.pK ?_ | refine GL.store ?_ | refine GL.storeN ?_ | refine GL.boxA (fun g => ?_) | refine GL.box1 (fun g => ?_) | refine GL.alloc1 rfl (fun g => ?_) | refine GL.allocA (fun g => ?_) | refine GL.no ?_) | ((with_reducible show G _ _ _ (Item.code (Code.cond _ _ _) :: _) _ _ _); first | refine G.condT rfl ?_ | refine G.condF rfl ?_ | refine G.condYes rfl (by omega) ?_ | refine G.condNo rfl (by omega) ?_) | (with_reducible refine G.exit rfl ?_))
    refine G.ret1 ok rfl ?_
    exact ⟨by rw [vlenI_no (by omega)], rfl, rfl⟩
  repeat (first | (with_reducible first | refine GL.nil ?_ | refine G.region ?_ | refine G.seq ?_ | refine G.skip ?_ | refine G.block ?_ | refine G.inBlock ?_ | refine G.label ?_) | ((with_reducible show GL _ _ _ _ (_ :: _) _ _ _ _); first | refine GL.p ?_ | refine GL.pK ?_ | refine GL.store ?_ | refine GL.storeN ?_ | refine GL.boxA (fun g => ?_) | refine GL.box1 (fun g => ?_) | refine GL.alloc1 rfl (fun g => ?_) | refine GL.allocA (fun g => ?_) | refine GL.no ?_) | ((with_reducible show G _ _ _ (Item.code (Code.cond _ _ _) :: _) _ _ _); first | refine G.condT rfl ?_ | refine G.condF rfl ?_ | refine G.condYes rfl (by omega) ?_ | refine G.condNo rfl (by omega) ?_) | (with_reducible refine G.exit rfl ?_))
  refine G.loop (fun x : Nat × Nat => [(0, .int .i64 x.1), (3, .int .i64 x.2)]) (fun _ => []) (fun x s' => s' = s ∧ x.1 ≤ 1099511627776 ∧ x.2 ≤ 6 ∧ x.2 + vrest x.1 = vlen n.toNat) (fun x => x.1) (n.toNat / 128, 1) (by ((repeat' (first | exact trivial | refine And.intro ?_ ?_)); all_goals (first | (refine congrArg some (congrArg (Value.int _) ?_); (try dsimp only); omega) | exact rfl))) .nil ?_ ?_
  · exact ⟨rfl, show n.toNat / 128 ≤ 1099511627776 by omega, show 1 ≤ 6 by omega, (vlen_rest _).symm⟩
  rintro ⟨m, j⟩ s' ⟨rfl, hm, hj, hv⟩ ih
  dsimp only at hm hj hv ⊢
  by_cases hp : 0 < m
  · have hr := vrest_step m hp
    have hl := vlen_le n.toNat (by omega)
    repeat (first | (with_reducible first | refine GL.nil ?_ | refine G.region ?_ | refine G.seq ?_ | refine G.skip ?_ | refine G.block ?_ | refine G.inBlock ?_ | refine G.label ?_) | ((with_reducible show GL _ _ _ _ (_ :: _) _ _ _ _); first | refine GL.p ?_ | refine GL.pK ?_ | refine GL.store ?_ | refine GL.storeN ?_ | refine GL.boxA (fun g => ?_) | refine GL.box1 (fun g => ?_) | refine GL.alloc1 rfl (fun g => ?_) | refine GL.allocA (fun g => ?_) | refine GL.no ?_) | ((with_reducible show G _ _ _ (Item.code (Code.cond _ _ _) :: _) _ _ _); first | refine G.condT rfl ?_ | refine G.condF rfl ?_ | refine G.condYes rfl (by omega) ?_ | refine G.condNo rfl (by omega) ?_) | (with_reducible refine G.exit rfl ?_))
    refine ih (m / 128, j + 1) _ _ _ _ (by ((repeat' (first | exact trivial | refine And.intro ?_ ?_)); all_goals (first | (refine congrArg some (congrArg (Value.int _) ?_); (try dsimp only); omega) | exact rfl))) .nil ⟨rfl, ?_, ?_, ?_⟩ ?_ <;> dsimp only <;> omega
  · obtain rfl : m = 0 := by omega
    repeat (first | (with_reducible first | refine GL.nil ?_ | refine G.region ?_ | refine G.seq ?_ | refine G.skip ?_ | refine G.block ?_ | refine G.inBlock ?_ | refine G.label ?_) | ((with_reducible show GL _ _ _ _ (_ :: _) _ _ _ _); first | refine GL.p ?_ | refine GL.pK ?_ | refine GL.store ?_ | refine GL.storeN ?_ | refine GL.boxA (fun g => ?_) | refine GL.box1 (fun g => ?_) | refine GL.alloc1 rfl (fun g => ?_) | refine GL.allocA (fun g => ?_) | refine GL.no ?_) | ((with_reducible show G _ _ _ (Item.code (Code.cond _ _ _) :: _) _ _ _); first | refine G.condT rfl ?_ | refine G.condF rfl ?_ | refine G.condYes rfl (by omega) ?_ | refine G.condNo rfl (by omega) ?_) | (with_reducible refine G.exit rfl ?_))
    refine G.ret1 ok rfl ?_
    exact ⟨by rw [vlenI_yes (by omega) (by omega), ← hv]; rfl, rfl, rfl⟩
theorem u8cell (m : Nat) : Value.int .u8 (128 + (m : Int) % 256 % 128) = .int .u8 ((UInt8.ofNat (128 + m % 128)).toNat : Nat) := by
  congr 1
  simp
  omega
theorem u8last (m : Nat) : Value.int .u8 ((m : Int) % 256) = .int .u8 ((UInt8.ofNat m).toNat : Nat) := by
  congr 1
theorem put_no (A : Option Addr) (n c : Nat) (x : Int) (s : Store) (hx : ¬ (0 ≤ x ∧ x ≤ 1099511627776)) :
    Fn Try.prog 61 #[.slice A n c, .int .i64 x] s [] (fun e s' h' => e = .returned (.tuple #[.slice none 0 0, .int .i64 2]) ∧ h' = [] ∧ s' = s) := by
  refine Fn.intro (args := [.slice A n c, .int .i64 x]) Try.func61 rfl Try.ntmps61 (Nat.le_of_ble_eq_true rfl) (fun C ok hh => ?_)
  repeat (first | (with_reducible first | refine GL.nil ?_ | refine G.region ?_ | refine G.seq ?_ | refine G.skip ?_ | refine G.block ?_ | refine G.inBlock ?_ | refine G.label ?_) | ((with_reducible show GL _ _ _ _ (_ :: _) _ _ _ _); first | refine GL.p ?_ | refine GL.pK ?_ | refine GL.store ?_ | refine GL.storeN ?_ | refine GL.boxA (fun g => ?_) | refine GL.box1 (fun g => ?_) | refine GL.alloc1 rfl (fun g => ?_) | refine GL.allocA (fun g => ?_) | refine GL.no ?_) | ((with_reducible show G _ _ _ (Item.code (Code.cond _ _ _) :: _) _ _ _); first | refine G.condT rfl ?_ | refine G.condF rfl ?_ | refine G.condYes rfl (by omega) ?_ | refine G.condNo rfl (by omega) ?_) | (with_reducible refine G.exit rfl ?_))
  refine GL.call rfl rfl (vlen_calls _ _) .nil fun v s1 h1 hp hle => ?_
  obtain ⟨e, rfl, rfl⟩ := hp
  rw [vlenI_no hx] at e
  cases e
  rw [List.nil_append]
  repeat (first | (with_reducible first | refine GL.nil ?_ | refine G.region ?_ | refine G.seq ?_ | refine G.skip ?_ | refine G.block ?_ | refine G.inBlock ?_ | refine G.label ?_) | ((with_reducible show GL _ _ _ _ (_ :: _) _ _ _ _); first | refine GL.p ?_ | refine GL.pK ?_ | refine GL.store ?_ | refine GL.storeN ?_ | refine GL.boxA (fun g => ?_) | refine GL.box1 (fun g => ?_) | refine GL.alloc1 rfl (fun g => ?_) | refine GL.allocA (fun g => ?_) | refine GL.no ?_) | ((with_reducible show G _ _ _ (Item.code (Code.cond _ _ _) :: _) _ _ _); first | refine G.condT rfl ?_ | refine G.condF rfl ?_ | refine G.condYes rfl (by omega) ?_ | refine G.condNo rfl (by omega) ?_) | (with_reducible refine G.exit rfl ?_))
  refine G.ret2 ok rfl ?_
  exact ⟨rfl, rfl, rfl⟩
theorem put_ok (A : Option Addr) (n c : Nat) (l : List UInt8) (x : Nat) (s : Store) (hb : Bs s A n c l) (hn : n ≤ 100000) (hx : x ≤ 1099511627776) :
    Fn Try.prog 61 #[.slice A n c, .int .i64 x] s [] (fun e _ h' => ∃ A' c', e = .returned (.tuple #[.slice A' (n + vlen x) c', .int .i64 0]) ∧ h' = [.buf (.slice A' (n + vlen x) c') 5 1 (n + vlen x) (bcells (l ++ venc x))]) := by
  have hc := hb.cap
  have hl6 := vlen_le x hx
  have hl1 := vlen_pos x
  refine Fn.intro (args := [.slice A n c, .int .i64 x]) Try.func61 rfl Try.ntmps61 (Nat.le_of_ble_eq_true rfl) (fun C ok hh => ?_)
  repeat (first | (with_reducible first | refine GL.nil ?_ | refine G.region ?_ | refine G.seq ?_ | refine G.skip ?_ | refine G.block ?_ | refine G.inBlock ?_ | refine G.label ?_) | ((with_reducible show GL _ _ _ _ (_ :: _) _ _ _ _); first | refine GL.p ?_ | refine GL.pK ?_ | refine GL.store ?_ | refine GL.storeN ?_ | refine GL.boxA (fun g => ?_) | refine GL.box1 (fun g => ?_) | refine GL.alloc1 rfl (fun g => ?_) | refine GL.allocA (fun g => ?_) | refine GL.no ?_) | ((with_reducible show G _ _ _ (Item.code (Code.cond _ _ _) :: _) _ _ _); first | refine G.condT rfl ?_ | refine G.condF rfl ?_ | refine G.condYes rfl (by omega) ?_ | refine G.condNo rfl (by omega) ?_) | (with_reducible refine G.exit rfl ?_))
  refine GL.call rfl rfl (vlen_calls _ _) .nil fun v s1 h1 hp hle => ?_
  obtain ⟨e, rfl, rfl⟩ := hp
  rw [vlenI_yes (by omega) (by omega), Int.toNat_natCast] at e
  cases e
  rw [List.nil_append]
  repeat (first | (with_reducible first | refine GL.nil ?_ | refine G.region ?_ | refine G.seq ?_ | refine G.skip ?_ | refine G.block ?_ | refine G.inBlock ?_ | refine G.label ?_) | ((with_reducible show GL _ _ _ _ (_ :: _) _ _ _ _); first | refine GL.p ?_ | refine GL.pK ?_ | refine GL.store ?_ | refine GL.storeN ?_ | refine GL.boxA (fun g => ?_) | refine GL.box1 (fun g => ?_) | refine GL.alloc1 rfl (fun g => ?_) | refine GL.allocA (fun g => ?_) | refine GL.no ?_) | ((with_reducible show G _ _ _ (Item.code (Code.cond _ _ _) :: _) _ _ _); first | refine G.condT rfl ?_ | refine G.condF rfl ?_ | refine G.condYes rfl (by omega) ?_ | refine G.condNo rfl (by omega) ?_) | (with_reducible refine G.exit rfl ?_))
  refine G.loop (fun x : Option (Option Addr × Nat) × Nat × Nat × List UInt8 => [(1, .int .i64 x.2.1), (6, .int .i64 x.2.2.1), (7, match x.1 with | none => .slice A n n | some y => .slice y.1 (n + x.2.2.2.length) y.2)])
    (fun x => match x.1 with | none => [] | some y => [.buf (.slice y.1 (n + x.2.2.2.length) y.2) 5 1 (n + x.2.2.2.length) (bcells (l ++ x.2.2.2))])
    (fun y s' => s1.le s' ∧ (y.1 = none → y.2.2.2 = []) ∧ y.2.1 ≤ 1099511627776 ∧ y.2.2.1 = vlen y.2.1 ∧ y.2.2.2 ++ venc y.2.1 = venc x) (fun y => y.2.2.1) (none, x, vlen x, []) (by ((repeat' (first | exact trivial | refine And.intro ?_ ?_)); all_goals (first | (refine congrArg some (congrArg (Value.int _) ?_); (try dsimp only); omega) | exact rfl))) .nil ⟨Store.le.refl _, fun _ => rfl, hx, rfl, rfl⟩ ?_
  rintro ⟨y, m, j, w⟩ s' ⟨hs', hy, hm, hj, hv⟩ ih
  dsimp only at hy hm hj hv ⊢
  subst hj
  have hw6 : w.length + vlen m = vlen x := by rw [← venc_length, ← venc_length, ← hv, List.length_append]
  have hm1 := vlen_pos m
  have hb' := hb.le hs'
  by_cases hp : 128 ≤ m
  · have hst := vlen_step m hp
    have hm2 := vlen_pos (m / 128)
    have hwe : bcells (l ++ w) ++ [Value.int .u8 (128 + (m : Int) % 256 % 128)] = bcells (l ++ (w ++ [UInt8.ofNat (128 + m % 128)])) := by
      rw [u8cell, ← List.append_assoc, bcells_append (l ++ w)]
      rfl
    have hv2 : (w ++ [UInt8.ofNat (128 + m % 128)]) ++ venc (m / 128) = venc x := by rw [← hv, venc_step m hp, List.append_assoc]; rfl
    cases y with
    | none =>
      obtain rfl := hy rfl
      rw [List.append_nil, List.nil_append] at hwe
      dsimp only
      repeat (first | (with_reducible first | refine GL.nil ?_ | refine G.region ?_ | refine G.seq ?_ | refine G.skip ?_ | refine G.block ?_ | refine G.inBlock ?_ | refine G.label ?_) | ((with_reducible show GL _ _ _ _ (_ :: _) _ _ _ _); first | refine GL.p ?_ | refine GL.pK ?_ | refine GL.store ?_ | refine GL.storeN ?_ | refine GL.boxA (fun g => ?_) | refine GL.box1 (fun g => ?_) | refine GL.alloc1 rfl (fun g => ?_) | refine GL.allocA (fun g => ?_) | refine GL.no ?_) | ((with_reducible show G _ _ _ (Item.code (Code.cond _ _ _) :: _) _ _ _); first | refine G.condT rfl ?_ | refine G.condF rfl ?_ | refine G.condYes rfl (by omega) ?_ | refine G.condNo rfl (by omega) ?_) | (with_reducible refine G.exit rfl ?_))
      refine GL.lit1 rfl fun A1 s2 hle1 hs2 => ?_
      refine GL.growS rfl (Src.of_sl hs2 (by simp [Value.oneCell'])) ((hb'.recap (Nat.le_refl _) hc).le hle1) (by omega) (by omega) (by omega) (by decide) fun A2 c2 => ?_
      rw [hwe]
      repeat (first | (with_reducible first | refine GL.nil ?_ | refine G.region ?_ | refine G.seq ?_ | refine G.skip ?_ | refine G.block ?_ | refine G.inBlock ?_ | refine G.label ?_) | ((with_reducible show GL _ _ _ _ (_ :: _) _ _ _ _); first | refine GL.p ?_ | refine GL.pK ?_ | refine GL.store ?_ | refine GL.storeN ?_ | refine GL.boxA (fun g => ?_) | refine GL.box1 (fun g => ?_) | refine GL.alloc1 rfl (fun g => ?_) | refine GL.allocA (fun g => ?_) | refine GL.no ?_) | ((with_reducible show G _ _ _ (Item.code (Code.cond _ _ _) :: _) _ _ _); first | refine G.condT rfl ?_ | refine G.condF rfl ?_ | refine G.condYes rfl (by omega) ?_ | refine G.condNo rfl (by omega) ?_) | (with_reducible refine G.exit rfl ?_))
      have hlen : n + 1 = n + [UInt8.ofNat (128 + m % 128)].length := rfl
      rw [hlen]
      refine ih (some (A2, c2), m / 128, vlen (m / 128), [UInt8.ofNat (128 + m % 128)]) _ _ _ _ (by ((repeat' (first | exact trivial | refine And.intro ?_ ?_)); all_goals (first | (refine congrArg some (congrArg (Value.int _) ?_); (try dsimp only); omega) | exact rfl))) (by (first | exact Split.refl _ | ((try dsimp only); repeat (first | exact Split.nil | (apply Split.cons; (repeat (first | exact Pick.head | apply Pick.tail))))))) ⟨hs'.trans hle1, (fun h => by cases h), ?_, rfl, hv2⟩ ?_ <;> dsimp only <;> omega
    | some y =>
      obtain ⟨A2, c2⟩ := y
      dsimp only
      repeat (first | (with_reducible first | refine GL.nil ?_ | refine G.region ?_ | refine G.seq ?_ | refine G.skip ?_ | refine G.block ?_ | refine G.inBlock ?_ | refine G.label ?_) | ((with_reducible show GL _ _ _ _ (_ :: _) _ _ _ _); first | refine GL.p ?_ | refine GL.pK ?_ | refine GL.store ?_ | refine GL.storeN ?_ | refine GL.boxA (fun g => ?_) | refine GL.box1 (fun g => ?_) | refine GL.alloc1 rfl (fun g => ?_) | refine GL.allocA (fun g => ?_) | refine GL.no ?_) | ((with_reducible show G _ _ _ (Item.code (Code.cond _ _ _) :: _) _ _ _); first | refine G.condT rfl ?_ | refine G.condF rfl ?_ | refine G.condYes rfl (by omega) ?_ | refine G.condNo rfl (by omega) ?_) | (with_reducible refine G.exit rfl ?_))
      refine GL.lit1 rfl fun A1 s2 hle1 hs2 => ?_
      refine GL.appS rfl rfl (Src.of_sl hs2 (by simp [Value.oneCell'])) (by omega) (by omega) fun A3 c3 => ?_
      rw [hwe]
      repeat (first | (with_reducible first | refine GL.nil ?_ | refine G.region ?_ | refine G.seq ?_ | refine G.skip ?_ | refine G.block ?_ | refine G.inBlock ?_ | refine G.label ?_) | ((with_reducible show GL _ _ _ _ (_ :: _) _ _ _ _); first | refine GL.p ?_ | refine GL.pK ?_ | refine GL.store ?_ | refine GL.storeN ?_ | refine GL.boxA (fun g => ?_) | refine GL.box1 (fun g => ?_) | refine GL.alloc1 rfl (fun g => ?_) | refine GL.allocA (fun g => ?_) | refine GL.no ?_) | ((with_reducible show G _ _ _ (Item.code (Code.cond _ _ _) :: _) _ _ _); first | refine G.condT rfl ?_ | refine G.condF rfl ?_ | refine G.condYes rfl (by omega) ?_ | refine G.condNo rfl (by omega) ?_) | (with_reducible refine G.exit rfl ?_))
      have hlen : n + w.length + 1 = n + (w ++ [UInt8.ofNat (128 + m % 128)]).length := by rw [List.length_append]; simp; omega
      rw [hlen]
      refine ih (some (A3, c3), m / 128, vlen (m / 128), w ++ [UInt8.ofNat (128 + m % 128)]) _ _ _ _ (by ((repeat' (first | exact trivial | refine And.intro ?_ ?_)); all_goals (first | (refine congrArg some (congrArg (Value.int _) ?_); (try dsimp only); omega) | exact rfl))) (by (first | exact Split.refl _ | ((try dsimp only); repeat (first | exact Split.nil | (apply Split.cons; (repeat (first | exact Pick.head | apply Pick.tail))))))) ⟨hs'.trans hle1, (fun h => by cases h), ?_, rfl, hv2⟩ ?_ <;> dsimp only <;> omega
  · have hst := vlen_one m (by omega)
    have hwe : bcells (l ++ w) ++ [Value.int .u8 ((m : Int) % 256)] = bcells (l ++ venc x) := by
      rw [u8last, ← hv, venc_one m (by omega), ← List.append_assoc, bcells_append (l ++ w)]
      rfl
    cases y with
    | none =>
      obtain rfl := hy rfl
      rw [List.append_nil] at hwe
      dsimp only
      repeat (first | (with_reducible first | refine GL.nil ?_ | refine G.region ?_ | refine G.seq ?_ | refine G.skip ?_ | refine G.block ?_ | refine G.inBlock ?_ | refine G.label ?_) | ((with_reducible show GL _ _ _ _ (_ :: _) _ _ _ _); first | refine GL.p ?_ | refine GL.pK ?_ | refine GL.store ?_ | refine GL.storeN ?_ | refine GL.boxA (fun g => ?_) | refine GL.box1 (fun g => ?_) | refine GL.alloc1 rfl (fun g => ?_) | refine GL.allocA (fun g => ?_) | refine GL.no ?_) | ((with_reducible show G _ _ _ (Item.code (Code.cond _ _ _) :: _) _ _ _); first | refine G.condT rfl ?_ | refine G.condF rfl ?_ | refine G.condYes rfl (by omega) ?_ | refine G.condNo rfl (by omega) ?_) | (with_reducible refine G.exit rfl ?_))
      refine GL.lit1 rfl fun A1 s2 hle1 hs2 => ?_
      refine GL.growS rfl (Src.of_sl hs2 (by simp [Value.oneCell'])) ((hb'.recap (Nat.le_refl _) hc).le hle1) (by omega) (by omega) (by omega) (by decide) fun A2 c2 => ?_
      rw [hwe, show n + 1 = n + vlen x by simp at hw6; omega]
      repeat (first | (with_reducible first | refine GL.nil ?_ | refine G.region ?_ | refine G.seq ?_ | refine G.skip ?_ | refine G.block ?_ | refine G.inBlock ?_ | refine G.label ?_) | ((with_reducible show GL _ _ _ _ (_ :: _) _ _ _ _); first | refine GL.p ?_ | refine GL.pK ?_ | refine GL.store ?_ | refine GL.storeN ?_ | refine GL.boxA (fun g => ?_) | refine GL.box1 (fun g => ?_) | refine GL.alloc1 rfl (fun g => ?_) | refine GL.allocA (fun g => ?_) | refine GL.no ?_) | ((with_reducible show G _ _ _ (Item.code (Code.cond _ _ _) :: _) _ _ _); first | refine G.condT rfl ?_ | refine G.condF rfl ?_ | refine G.condYes rfl (by omega) ?_ | refine G.condNo rfl (by omega) ?_) | (with_reducible refine G.exit rfl ?_))
      refine G.ret2 ok rfl ?_
      exact ⟨_, _, rfl, rfl⟩
    | some y =>
      obtain ⟨A2, c2⟩ := y
      dsimp only
      repeat (first | (with_reducible first | refine GL.nil ?_ | refine G.region ?_ | refine G.seq ?_ | refine G.skip ?_ | refine G.block ?_ | refine G.inBlock ?_ | refine G.label ?_) | ((with_reducible show GL _ _ _ _ (_ :: _) _ _ _ _); first | refine GL.p ?_ | refine GL.pK ?_ | refine GL.store ?_ | refine GL.storeN ?_ | refine GL.boxA (fun g => ?_) | refine GL.box1 (fun g => ?_) | refine GL.alloc1 rfl (fun g => ?_) | refine GL.allocA (fun g => ?_) | refine GL.no ?_) | ((with_reducible show G _ _ _ (Item.code (Code.cond _ _ _) :: _) _ _ _); first | refine G.condT rfl ?_ | refine G.condF rfl ?_ | refine G.condYes rfl (by omega) ?_ | refine G.condNo rfl (by omega) ?_) | (with_reducible refine G.exit rfl ?_))
      refine GL.lit1 rfl fun A1 s2 hle1 hs2 => ?_
      refine GL.appS rfl rfl (Src.of_sl hs2 (by simp [Value.oneCell'])) (by omega) (by omega) fun A3 c3 => ?_
      rw [hwe, show n + w.length + 1 = n + vlen x by omega]
      repeat (first | (with_reducible first | refine GL.nil ?_ | refine G.region ?_ | refine G.seq ?_ | refine G.skip ?_ | refine G.block ?_ | refine G.inBlock ?_ | refine G.label ?_) | ((with_reducible show GL _ _ _ _ (_ :: _) _ _ _ _); first | refine GL.p ?_ | refine GL.pK ?_ | refine GL.store ?_ | refine GL.storeN ?_ | refine GL.boxA (fun g => ?_) | refine GL.box1 (fun g => ?_) | refine GL.alloc1 rfl (fun g => ?_) | refine GL.allocA (fun g => ?_) | refine GL.no ?_) | ((with_reducible show G _ _ _ (Item.code (Code.cond _ _ _) :: _) _ _ _); first | refine G.condT rfl ?_ | refine G.condF rfl ?_ | refine G.condYes rfl (by omega) ?_ | refine G.condNo rfl (by omega) ?_) | (with_reducible refine G.exit rfl ?_))
      refine G.ret2 ok rfl ?_
      exact ⟨_, _, rfl, rfl⟩
theorem number_no (A : Option Addr) (n c : Nat) (x : Int) (s : Store) (hx : ¬ (0 ≤ x ∧ x ≤ 1099511627776)) :
    Fn Try.prog 45 #[.slice A n c, .int .i64 x] s [] (fun e s' h' => e = .returned (.tuple #[.slice none 0 0, .int .i64 2]) ∧ h' = [] ∧ s' = s) := by
  refine Fn.intro (args := [.slice A n c, .int .i64 x]) Try.func45 rfl Try.ntmps45 (Nat.le_of_ble_eq_true rfl) (fun C ok hh => ?_)
  repeat (first | (with_reducible first | refine GL.nil ?_ | refine G.region ?_ | refine G.seq ?_ | refine G.skip ?_ | refine G.block ?_ | refine G.inBlock ?_ | refine G.label ?_) | ((with_reducible show GL _ _ _ _ (_ :: _) _ _ _ _); first | refine GL.p ?_ | refine GL.pK ?_ | refine GL.store ?_ | refine GL.storeN ?_ | refine GL.boxA (fun g => ?_) | refine GL.box1 (fun g => ?_) | refine GL.alloc1 rfl (fun g => ?_) | refine GL.allocA (fun g => ?_) | refine GL.no ?_) | ((with_reducible show G _ _ _ (Item.code (Code.cond _ _ _) :: _) _ _ _); first | refine G.condT rfl ?_ | refine G.condF rfl ?_ | refine G.condYes rfl (by omega) ?_ | refine G.condNo rfl (by omega) ?_) | (with_reducible refine G.exit rfl ?_))
  refine GL.call rfl rfl (put_no _ _ _ _ _ hx) .nil fun v s1 h1 hp hle => ?_
  obtain ⟨e, rfl, rfl⟩ := hp
  cases e
  rw [List.nil_append]
  repeat (first | (with_reducible first | refine GL.nil ?_ | refine G.region ?_ | refine G.seq ?_ | refine G.skip ?_ | refine G.block ?_ | refine G.inBlock ?_ | refine G.label ?_) | ((with_reducible show GL _ _ _ _ (_ :: _) _ _ _ _); first | refine GL.p ?_ | refine GL.pK ?_ | refine GL.store ?_ | refine GL.storeN ?_ | refine GL.boxA (fun g => ?_) | refine GL.box1 (fun g => ?_) | refine GL.alloc1 rfl (fun g => ?_) | refine GL.allocA (fun g => ?_) | refine GL.no ?_) | ((with_reducible show G _ _ _ (Item.code (Code.cond _ _ _) :: _) _ _ _); first | refine G.condT rfl ?_ | refine G.condF rfl ?_ | refine G.condYes rfl (by omega) ?_ | refine G.condNo rfl (by omega) ?_) | (with_reducible refine G.exit rfl ?_))
  refine G.ret2 ok rfl ?_
  exact ⟨rfl, rfl, rfl⟩
theorem number_ok (A : Option Addr) (n c : Nat) (l : List UInt8) (x : Nat) (s : Store) (hb : Bs s A n c l) (hn : n ≤ 100000) (hx : x ≤ 1099511627776) :
    Fn Try.prog 45 #[.slice A n c, .int .i64 x] s [] (fun e _ h' => ∃ A' c', e = .returned (.tuple #[.slice A' (n + vlen x) c', .int .i64 0]) ∧ h' = [.buf (.slice A' (n + vlen x) c') 5 1 (n + vlen x) (bcells (l ++ venc x))]) := by
  refine Fn.intro (args := [.slice A n c, .int .i64 x]) Try.func45 rfl Try.ntmps45 (Nat.le_of_ble_eq_true rfl) (fun C ok hh => ?_)
  repeat (first | (with_reducible first | refine GL.nil ?_ | refine G.region ?_ | refine G.seq ?_ | refine G.skip ?_ | refine G.block ?_ | refine G.inBlock ?_ | refine G.label ?_) | ((with_reducible show GL _ _ _ _ (_ :: _) _ _ _ _); first | refine GL.p ?_ | refine GL.pK ?_ | refine GL.store ?_ | refine GL.storeN ?_ | refine GL.boxA (fun g => ?_) | refine GL.box1 (fun g => ?_) | refine GL.alloc1 rfl (fun g => ?_) | refine GL.allocA (fun g => ?_) | refine GL.no ?_) | ((with_reducible show G _ _ _ (Item.code (Code.cond _ _ _) :: _) _ _ _); first | refine G.condT rfl ?_ | refine G.condF rfl ?_ | refine G.condYes rfl (by omega) ?_ | refine G.condNo rfl (by omega) ?_) | (with_reducible refine G.exit rfl ?_))
  refine GL.call rfl rfl (put_ok _ _ _ l x _ hb hn hx) .nil fun v s1 h1 hp hle => ?_
  obtain ⟨A', c', e, rfl⟩ := hp
  cases e
  repeat (first | (with_reducible first | refine GL.nil ?_ | refine G.region ?_ | refine G.seq ?_ | refine G.skip ?_ | refine G.block ?_ | refine G.inBlock ?_ | refine G.label ?_) | ((with_reducible show GL _ _ _ _ (_ :: _) _ _ _ _); first | refine GL.p ?_ | refine GL.pK ?_ | refine GL.store ?_ | refine GL.storeN ?_ | refine GL.boxA (fun g => ?_) | refine GL.box1 (fun g => ?_) | refine GL.alloc1 rfl (fun g => ?_) | refine GL.allocA (fun g => ?_) | refine GL.no ?_) | ((with_reducible show G _ _ _ (Item.code (Code.cond _ _ _) :: _) _ _ _); first | refine G.condT rfl ?_ | refine G.condF rfl ?_ | refine G.condYes rfl (by omega) ?_ | refine G.condNo rfl (by omega) ?_) | (with_reducible refine G.exit rfl ?_))
  refine G.ret2 ok rfl ?_
  exact ⟨_, _, rfl, rfl⟩
/-- A text's bytes. -/
def tenc (z : ByteArray) : List UInt8 := venc z.size ++ z.data.toList
theorem tenc_length (z : ByteArray) : (tenc z).length = vlen z.size + z.size := by
  have : z.data.toList.length = z.size := by rw [Array.length_toList]; rfl
  rw [tenc, List.length_append, venc_length, this]
end Go.Proofs.Ytnndjobhcncanaa
