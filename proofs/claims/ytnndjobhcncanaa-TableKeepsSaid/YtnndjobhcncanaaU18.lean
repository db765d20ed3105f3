/- Tables as bytes: what is written. No statement of the seat is proved here. -/
import Derived.Test.YtnndjobhcncanaaU11
import Derived.Test.YtnndjobhcncanaaU15
import Derived.Test.YtnndjobhcncanaaN2
namespace Go.Proofs.Ytnndjobhcncanaa
open Go.RowKit
def TabD.enc (t : TabD) : List Value := [.int .i64 t.st, .int .i64 t.en, .slice t.h.A t.h.n t.h.c]
theorem tab_len (t : TabD) : t.enc.length = 3 := rfl
/-- A slice of tables. -/
structure Ts (s : Store) (h : Hd) (l : List TabD) : Prop where
  sl : Sl s h.A h.n h.c 3 (l.flatMap TabD.enc)
  laid : ∀ t ∈ l, t.laid s
theorem Ts.le {s s' : Store} {h : Hd} {l : List TabD} (x : Ts s h l) (hle : s.le s') : Ts s' h l := ⟨x.sl.le hle, fun t ht => (x.laid t ht).le hle⟩
theorem Ts.len {s : Store} {h : Hd} {l : List TabD} (x : Ts s h l) : l.length = h.n := Sl.flen tab_len (by decide) x.sl
theorem tab_at (l : List TabD) (i : Nat) (hi : i < l.length) : ((l.flatMap TabD.enc).drop ((i : Int).toNat * 3)).take 3 = [.int .i64 l[i].st, .int .i64 l[i].en, .slice l[i].h.A l[i].h.n l[i].h.c] := by
  rw [Int.toNat_natCast, fm_at tab_len l i hi]
  rfl
theorem tab_at0 (l : List TabD) (i : Nat) (hi : i < l.length) : (l.flatMap TabD.enc)[(i : Int).toNat * 3 + 0]? = some (.int .i64 l[i].st) ∧ (l.flatMap TabD.enc)[(i : Int).toNat * 3 + 2]? = some (.slice l[i].h.A l[i].h.n l[i].h.c) :=
  ⟨fm_geti tab_len l i i (Int.toNat_natCast i) hi 0 (by decide), fm_geti tab_len l i i (Int.toNat_natCast i) hi 2 (by decide)⟩
/-- The offset ahead of the k-th; what is written of the first k. -/
def ahead (l : List Int) : Nat → Int
  | 0 => 0
  | k + 1 => nth l k
def dby (l : List Int) : Nat → List UInt8
  | 0 => []
  | k + 1 => dby l k ++ venc (nth l k - ahead l k).toNat
def tby (t : TabD) : List UInt8 := venc t.st.toNat ++ venc t.l.length ++ dby t.l t.l.length
def aby (l : List TabD) : List UInt8 := l.flatMap tby
theorem TabD.ok.step {t : TabD} (h : t.ok) (k : Nat) (hk : k < t.h.n) : 0 ≤ nth t.l k - ahead t.l k ∧ nth t.l k - ahead t.l k ≤ 1048576 := by
  have h1 := h.lo k hk
  have h2 := h.hi k hk
  cases k with
  | zero => simp only [ahead]; omega
  | succ k =>
    have h3 := h.up k hk
    have h4 := h.lo k (by omega)
    simp only [ahead]
    omega
theorem dby_len {t : TabD} (h : t.ok) : ∀ k, k ≤ t.h.n → (dby t.l k).length ≤ 6 * k
  | 0, _ => by simp [dby]
  | k + 1, hk => by
    have h1 := dby_len h k (by omega)
    have h2 := h.step k (by omega)
    have h3 := vlen_le (nth t.l k - ahead t.l k).toNat (by omega)
    rw [dby, List.length_append, venc_length]
    omega
theorem tby_len {t : TabD} (h : t.ok) (hl : t.l.length = t.h.n) (hn : t.h.n ≤ 2000) : (tby t).length ≤ 12100 := by
  have h1 := dby_len h t.h.n (Nat.le_refl _)
  have h2 := vlen_le t.st.toNat (by have := h.se; have := h.en; omega)
  have h3 := vlen_le t.l.length (by omega)
  rw [tby, List.length_append, List.length_append, venc_length, venc_length, hl]
  rw [hl] at h3
  omega
theorem check1T_calls (t : TabD) (s : Store) (ht : t.laid s) : Fn Try.prog 43 #[.agg [Value.int .i64 t.st, .int .i64 t.en, .slice t.h.A t.h.n t.h.c].toArray] s [] (fun e s' h' => ∃ b, e = .returned (.bool b) ∧ (b = false ↔ t.ok) ∧ s' = s ∧ h' = []) := by
  refine Fn.intro (args := [.agg [Value.int .i64 t.st, .int .i64 t.en, .slice t.h.A t.h.n t.h.c].toArray]) Try.func43 rfl Try.ntmps43 (Nat.le_of_ble_eq_true rfl) (fun C ok hh => ?_)
  repeat (first | (with_reducible first | refine GL.nil ?_ | refine G.region ?_ | refine G.seq ?_ | refine G.skip ?_ | refine G.block ?_ | refine G.inBlock ?_ | refine G.label ?_) | ((with_reducible show GL _ _ _ _ (_ :: _) _ _ _ _); first | refine GL.p ?_ | refine GL.pK ?_ | refine GL.store ?_ | refine GL.storeN ?_ | refine GL.boxA (fun g => ?_) | refine GL.box1 (fun g => ?_) | refine GL.alloc1 rfl (fun g => ?_) | refine GL.allocA (fun g => ?_) | refine GL.no ?_) | ((with_reducible show G _ _ _ (Item.code (Code.cond _ _ _) :: _) _ _ _); first | refine G.condT rfl ?_ | refine G.condF rfl ?_ | refine G.condYes rfl (by omega) ?_ | refine G.condNo rfl (by omega) ?_) | (with_reducible refine G.exit rfl ?_))
  refine GL.call rfl rfl (tcheck_calls t s ht) .nil fun v s1 h1' hq hle => ?_
  obtain ⟨x, e1, hx, hs1, rfl⟩ := hq
  subst s1
  cases e1
  rw [List.nil_append]
  rcases hx with ⟨rfl, hk⟩ | ⟨rfl, hk⟩
  · repeat (first | (with_reducible first | refine GL.nil ?_ | refine G.region ?_ | refine G.seq ?_ | refine G.skip ?_ | refine G.block ?_ | refine G.inBlock ?_ | refine G.label ?_) | ((with_reducible show GL _ _ _ _ (_ :: _) _ _ _ _); first | refine GL.p ?_ | refine GL.pK ?_ | refine GL.store ?_ | refine GL.storeN ?_ | refine GL.boxA (fun g => ?_) | refine GL.box1 (fun g => ?_) | refine GL.alloc1 rfl (fun g => ?_) | refine GL.allocA (fun g => ?_) | refine GL.no ?_) | ((with_reducible show G _ _ _ (Item.code (Code.cond _ _ _) :: _) _ _ _); first | refine G.condT rfl ?_ | refine G.condF rfl ?_ | refine G.condYes rfl (by omega) ?_ | refine G.condNo rfl (by omega) ?_) | (with_reducible refine G.exit rfl ?_))
    refine G.sub .nil ?_
    refine G.ret1 ok rfl ?_
    exact ⟨false, rfl, ⟨fun _ => hk, fun _ => rfl⟩, rfl, rfl⟩
  · repeat (first | (with_reducible first | refine GL.nil ?_ | refine G.region ?_ | refine G.seq ?_ | refine G.skip ?_ | refine G.block ?_ | refine G.inBlock ?_ | refine G.label ?_) | ((with_reducible show GL _ _ _ _ (_ :: _) _ _ _ _); first | refine GL.p ?_ | refine GL.pK ?_ | refine GL.store ?_ | refine GL.storeN ?_ | refine GL.boxA (fun g => ?_) | refine GL.box1 (fun g => ?_) | refine GL.alloc1 rfl (fun g => ?_) | refine GL.allocA (fun g => ?_) | refine GL.no ?_) | ((with_reducible show G _ _ _ (Item.code (Code.cond _ _ _) :: _) _ _ _); first | refine G.condT rfl ?_ | refine G.condF rfl ?_ | refine G.condYes rfl (by omega) ?_ | refine G.condNo rfl (by omega) ?_) | (with_reducible refine G.exit rfl ?_))
    refine G.sub .nil ?_
    refine G.ret1 ok rfl ?_
    exact ⟨true, rfl, ⟨fun h => by simp at h, fun h => absurd h hk⟩, rfl, rfl⟩
set_option maxRecDepth 20000 in
set_option maxHeartbeats 4000000 in
theorem idxT_calls (h : Hd) (l : List TabD) (s : Store) (hx : Ts s h l) : Fn Try.prog 60 #[.slice h.A h.n h.c, .func (.func 43) #[] #[]] s [] (fun e s' h' => ∃ x : Int, e = .returned (.int .i64 x) ∧ (x < 0 ↔ ∀ t ∈ l, t.ok) ∧ s' = s ∧ h' = []) := by
  have hl := hx.len
  have hS := hx.sl
  have hcap := hS.cap
  have hmax := hS.max
  refine Fn.intro (args := [.slice h.A h.n h.c, .func (.func 43) #[] #[]]) Try.func60 rfl Try.ntmps60 (Nat.le_of_ble_eq_true rfl) (fun C ok hh => ?_)
  repeat (first | (with_reducible first | refine GL.nil ?_ | refine G.region ?_ | refine G.seq ?_ | refine G.skip ?_ | refine G.block ?_ | refine G.inBlock ?_ | refine G.label ?_) | ((with_reducible show GL _ _ _ _ (_ :: _) _ _ _ _); first | refine GL.p ?_ | refine GL.pK ?_ | refine GL.store ?_ | refine GL.storeN ?_ | refine GL.boxA (fun g => ?_) | refine GL.box1 (fun g => ?_) | refine GL.alloc1 rfl (fun g => ?_) | refine GL.allocA (fun g => ?_) | refine GL.no ?_) | ((with_reducible show G _ _ _ (Item.code (Code.cond _ _ _) :: _) _ _ _); first | refine G.condT rfl ?_ | refine G.condF rfl ?_ | refine G.condYes rfl (by omega) ?_ | refine G.condNo rfl (by omega) ?_) | (with_reducible refine G.exit rfl ?_))
  refine G.loop (fun i : Nat => [(0, .slice h.A h.n h.c), (1, .func (.func 43) #[] #[]), (7, .int .i64 h.n), (8, .int .i64 i)]) (fun _ => []) (fun i s' => s' = s ∧ i ≤ h.n ∧ ∀ t ∈ l.take i, t.ok) (fun i => h.n - i) 0 (by ((repeat' (first | exact trivial | refine And.intro ?_ ?_)); all_goals (first | (refine congrArg some (congrArg (Value.int _) ?_); (try dsimp only); omega) | exact rfl))) .nil ⟨rfl, Nat.zero_le _, fun t ht => by simp at ht⟩ ?_
  rintro i s' ⟨rfl, hi, ha⟩ ih
  try dsimp only
  by_cases hlt : i < h.n
  · have hat := tab_at l i (by omega)
    have htk := List.take_succ_eq_append_getElem (l := l) (i := i) (by omega)
    have hmem : l[i]'(by omega) ∈ l := List.getElem_mem _
    generalize l[i]'(by omega) = t at hat htk hmem
    repeat (first | (with_reducible first | refine GL.nil ?_ | refine G.region ?_ | refine G.seq ?_ | refine G.skip ?_ | refine G.block ?_ | refine G.inBlock ?_ | refine G.label ?_) | ((with_reducible show GL _ _ _ _ (_ :: _) _ _ _ _); first | refine GL.p ?_ | refine GL.pK ?_ | refine GL.store ?_ | refine GL.storeN ?_ | refine GL.boxA (fun g => ?_) | refine GL.box1 (fun g => ?_) | refine GL.alloc1 rfl (fun g => ?_) | refine GL.allocA (fun g => ?_) | refine GL.no ?_) | ((with_reducible show G _ _ _ (Item.code (Code.cond _ _ _) :: _) _ _ _); first | refine G.condT rfl ?_ | refine G.condF rfl ?_ | refine G.condYes rfl (by omega) ?_ | refine G.condNo rfl (by omega) ?_) | (with_reducible refine G.exit rfl ?_))
    refine GL.callV rfl rfl rfl (check1T_calls t _ (hx.laid t hmem)) .nil fun v s1 h1' hq hle => ?_
    obtain ⟨b, e1, hb, h3, rfl⟩ := hq
    subst s1
    cases e1
    rw [List.nil_append]
    cases b
    · repeat (first | (with_reducible first | refine GL.nil ?_ | refine G.region ?_ | refine G.seq ?_ | refine G.skip ?_ | refine G.block ?_ | refine G.inBlock ?_ | refine G.label ?_) | ((with_reducible show GL _ _ _ _ (_ :: _) _ _ _ _); first | refine GL.p ?_ | refine GL.pK ?_ | refine GL.store ?_ | refine GL.storeN ?_ | refine GL.boxA (fun g => ?_) | refine GL.box1 (fun g => ?_) | refine GL.alloc1 rfl (fun g => ?_) | refine GL.allocA (fun g => ?_) | refine GL.no ?_) | ((with_reducible show G _ _ _ (Item.code (Code.cond _ _ _) :: _) _ _ _); first | refine G.condT rfl ?_ | refine G.condF rfl ?_ | refine G.condYes rfl (by omega) ?_ | refine G.condNo rfl (by omega) ?_) | (with_reducible refine G.exit rfl ?_))
      refine ih (i + 1) _ _ _ _ (by ((repeat' (first | exact trivial | refine And.intro ?_ ?_)); all_goals (first | (refine congrArg some (congrArg (Value.int _) ?_); (try dsimp only); omega) | exact rfl))) .nil ⟨rfl, by omega, fun x hx' => ?_⟩ (by omega)
      rw [htk] at hx'
      rcases List.mem_append.1 hx' with h' | h'
      · exact ha x h'
      · obtain rfl : x = t := by simpa using h'
        exact hb.1 rfl
    · repeat (first | (with_reducible first | refine GL.nil ?_ | refine G.region ?_ | refine G.seq ?_ | refine G.skip ?_ | refine G.block ?_ | refine G.inBlock ?_ | refine G.label ?_) | ((with_reducible show GL _ _ _ _ (_ :: _) _ _ _ _); first | refine GL.p ?_ | refine GL.pK ?_ | refine GL.store ?_ | refine GL.storeN ?_ | refine GL.boxA (fun g => ?_) | refine GL.box1 (fun g => ?_) | refine GL.alloc1 rfl (fun g => ?_) | refine GL.allocA (fun g => ?_) | refine GL.no ?_) | ((with_reducible show G _ _ _ (Item.code (Code.cond _ _ _) :: _) _ _ _); first | refine G.condT rfl ?_ | refine G.condF rfl ?_ | refine G.condYes rfl (by omega) ?_ | refine G.condNo rfl (by omega) ?_) | (with_reducible refine G.exit rfl ?_))
      refine G.ret1 ok rfl ?_
      exact ⟨_, rfl, ⟨fun h' => by omega, fun h' => by have := hb.2 (h' t hmem); simp at this⟩, rfl, rfl⟩
  · obtain rfl : i = h.n := by omega
    repeat (first | (with_reducible first | refine GL.nil ?_ | refine G.region ?_ | refine G.seq ?_ | refine G.skip ?_ | refine G.block ?_ | refine G.inBlock ?_ | refine G.label ?_) | ((with_reducible show GL _ _ _ _ (_ :: _) _ _ _ _); first | refine GL.p ?_ | refine GL.pK ?_ | refine GL.store ?_ | refine GL.storeN ?_ | refine GL.boxA (fun g => ?_) | refine GL.box1 (fun g => ?_) | refine GL.alloc1 rfl (fun g => ?_) | refine GL.allocA (fun g => ?_) | refine GL.no ?_) | ((with_reducible show G _ _ _ (Item.code (Code.cond _ _ _) :: _) _ _ _); first | refine G.condT rfl ?_ | refine G.condF rfl ?_ | refine G.condYes rfl (by omega) ?_ | refine G.condNo rfl (by omega) ?_) | (with_reducible refine G.exit rfl ?_))
    refine G.ret1 ok rfl ?_
    exact ⟨-1, rfl, ⟨fun _ t ht => ha t (by rw [List.take_of_length_le (by omega)]; exact ht), fun _ => by omega⟩, rfl, rfl⟩
theorem hasT_calls (h : Hd) (l : List TabD) (s : Store) (hx : Ts s h l) : Fn Try.prog 42 #[.slice h.A h.n h.c, .func (.func 43) #[] #[]] s [] (fun e s' h' => ∃ b, e = .returned (.bool b) ∧ (b = false ↔ ∀ t ∈ l, t.ok) ∧ s' = s ∧ h' = []) := by
  refine Fn.intro (args := [.slice h.A h.n h.c, .func (.func 43) #[] #[]]) Try.func42 rfl Try.ntmps42 (Nat.le_of_ble_eq_true rfl) (fun C ok hh => ?_)
  repeat (first | (with_reducible first | refine GL.nil ?_ | refine G.region ?_ | refine G.seq ?_ | refine G.skip ?_ | refine G.block ?_ | refine G.inBlock ?_ | refine G.label ?_) | ((with_reducible show GL _ _ _ _ (_ :: _) _ _ _ _); first | refine GL.p ?_ | refine GL.pK ?_ | refine GL.store ?_ | refine GL.storeN ?_ | refine GL.boxA (fun g => ?_) | refine GL.box1 (fun g => ?_) | refine GL.alloc1 rfl (fun g => ?_) | refine GL.allocA (fun g => ?_) | refine GL.no ?_) | ((with_reducible show G _ _ _ (Item.code (Code.cond _ _ _) :: _) _ _ _); first | refine G.condT rfl ?_ | refine G.condF rfl ?_ | refine G.condYes rfl (by omega) ?_ | refine G.condNo rfl (by omega) ?_) | (with_reducible refine G.exit rfl ?_))
  refine GL.call rfl rfl (idxT_calls h l s hx) .nil fun v s1 h1 hq hle => ?_
  obtain ⟨x, e1, hxx, h3, rfl⟩ := hq
  subst s1
  cases e1
  rw [List.nil_append]
  by_cases h0 : 0 ≤ x
  · repeat (first | (with_reducible first | refine GL.nil ?_ | refine G.region ?_ | refine G.seq ?_ | refine G.skip ?_ | refine G.block ?_ | refine G.inBlock ?_ | refine G.label ?_) | ((with_reducible show GL _ _ _ _ (_ :: _) _ _ _ _); first | refine GL.p ?_ | refine GL.pK ?_ | refine GL.store ?_ | refine GL.storeN ?_ | refine GL.boxA (fun g => ?_) | refine GL.box1 (fun g => ?_) | refine GL.alloc1 rfl (fun g => ?_) | refine GL.allocA (fun g => ?_) | refine GL.no ?_) | ((with_reducible show G _ _ _ (Item.code (Code.cond _ _ _) :: _) _ _ _); first | refine G.condT rfl ?_ | refine G.condF rfl ?_ | refine G.condYes rfl (by omega) ?_ | refine G.condNo rfl (by omega) ?_) | (with_reducible refine G.exit rfl ?_))
    refine G.ret1 ok rfl ?_
    exact ⟨true, rfl, ⟨fun h => by simp at h, fun h => by have := hxx.2 h; omega⟩, rfl, rfl⟩
  · repeat (first | (with_reducible first | refine GL.nil ?_ | refine G.region ?_ | refine G.seq ?_ | refine G.skip ?_ | refine G.block ?_ | refine G.inBlock ?_ | refine G.label ?_) | ((with_reducible show GL _ _ _ _ (_ :: _) _ _ _ _); first | refine GL.p ?_ | refine GL.pK ?_ | refine GL.store ?_ | refine GL.storeN ?_ | refine GL.boxA (fun g => ?_) | refine GL.box1 (fun g => ?_) | refine GL.alloc1 rfl (fun g => ?_) | refine GL.allocA (fun g => ?_) | refine GL.no ?_) | ((with_reducible show G _ _ _ (Item.code (Code.cond _ _ _) :: _) _ _ _); first | refine G.condT rfl ?_ | refine G.condF rfl ?_ | refine G.condYes rfl (by omega) ?_ | refine G.condNo rfl (by omega) ?_) | (with_reducible refine G.exit rfl ?_))
    refine G.ret1 ok rfl ?_
    exact ⟨false, rfl, ⟨fun _ => hxx.1 (by omega), fun _ => rfl⟩, rfl, rfl⟩
/-- The variable that the bytes stand in. -/
abbrev bufE (g : Nat) (A : Option Addr) (n c : Nat) : Ent := .blk g (.cells [Value.slice A n c].toArray 71 (0, 0))
theorem put2_calls (g : Nat) (A : Option Addr) (n c : Nat) (l : List UInt8) (x : Nat) (s : Store) (hb : Bs s A n c l) (hn : n ≤ 100000) (hx : x ≤ 1099511627776) :
    Fn Try.prog 44 #[.int .i64 x, .pointer (some ⟨g, 0, none⟩)] s [bufE g A n c] (fun e s' h' => ∃ A' c', e = .returned (.tuple #[]) ∧ Bs s' A' (n + vlen x) c' (l ++ venc x) ∧ h' = [bufE g A' (n + vlen x) c']) := by
  refine Fn.intro (args := [.int .i64 x, .pointer (some ⟨g, 0, none⟩)]) Try.func44 rfl Try.ntmps44 (Nat.le_of_ble_eq_true rfl) (fun C ok hh => ?_)
  repeat (first | (with_reducible first | refine GL.nil ?_ | refine G.region ?_ | refine G.seq ?_ | refine G.skip ?_ | refine G.block ?_ | refine G.inBlock ?_ | refine G.label ?_) | ((with_reducible show GL _ _ _ _ (_ :: _) _ _ _ _); first | refine GL.p ?_ | refine GL.pK ?_ | refine GL.store ?_ | refine GL.storeN ?_ | refine GL.boxA (fun g => ?_) | refine GL.box1 (fun g => ?_) | refine GL.alloc1 rfl (fun g => ?_) | refine GL.allocA (fun g => ?_) | refine GL.no ?_) | ((with_reducible show G _ _ _ (Item.code (Code.cond _ _ _) :: _) _ _ _); first | refine G.condT rfl ?_ | refine G.condF rfl ?_ | refine G.condYes rfl (by omega) ?_ | refine G.condNo rfl (by omega) ?_) | (with_reducible refine G.exit rfl ?_))
  refine GL.call rfl rfl (number_fr A n c l x _ hb hn hx) .nil fun v s1 h1 hp hle => ?_
  obtain ⟨A1, c1, e1, rfl, hs1⟩ := hp
  cases e1
  rw [List.nil_append]
  repeat (first | (with_reducible first | refine GL.nil ?_ | refine G.region ?_ | refine G.seq ?_ | refine G.skip ?_ | refine G.block ?_ | refine G.inBlock ?_ | refine G.label ?_) | ((with_reducible show GL _ _ _ _ (_ :: _) _ _ _ _); first | refine GL.p ?_ | refine GL.pK ?_ | refine GL.store ?_ | refine GL.storeN ?_ | refine GL.boxA (fun g => ?_) | refine GL.box1 (fun g => ?_) | refine GL.alloc1 rfl (fun g => ?_) | refine GL.allocA (fun g => ?_) | refine GL.no ?_) | ((with_reducible show G _ _ _ (Item.code (Code.cond _ _ _) :: _) _ _ _); first | refine G.condT rfl ?_ | refine G.condF rfl ?_ | refine G.condYes rfl (by omega) ?_ | refine G.condNo rfl (by omega) ?_) | (with_reducible refine G.exit rfl ?_))
  refine G.end0 ok rfl ?_
  exact ⟨_, _, rfl, hs1, rfl⟩
end Go.Proofs.Ytnndjobhcncanaa
