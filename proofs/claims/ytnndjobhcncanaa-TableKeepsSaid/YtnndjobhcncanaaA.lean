/- A small calculus for walking Go functions: a store of what never changes, a list of what is owned, frames as lists of what is known. No statement of the seat is proved here. -/
import Derived.Test.YtnndjobhcncanaaWLast
import Derived.WalkKit
namespace Go.Proofs.Ytnndjobhcncanaa
open Go.RowKit

/-! ### What never changes, and what is owned -/
abbrev Store := Nat → Option Obj
def Store.le (s t : Store) : Prop := ∀ g o, s g = some o → t g = some o
theorem Store.le.refl (s : Store) : s.le s := fun _ _ h => h
theorem Store.le.trans {s t u : Store} (h : s.le t) (k : t.le u) : s.le u := fun g o e => k g o (h g o e)

inductive Ent where
  | blk (g : Nat) (o : Obj)
  | buf (v : Value) (e : TypeId) (sz n : Nat) (xs : List Value)
def Ent.keys : Ent → List Nat
  | .blk g _ => [g]
  | .buf v _ _ _ _ => v.ownBlock.toList
def Ent.holds (w : World) : Ent → Prop
  | .blk g o => w.heap[g]? = some o
  | .buf v e sz n xs => w.ownsRow 0 e sz v n xs
def keys (h : List Ent) : List Nat := h.flatMap Ent.keys
theorem keys_nil : keys [] = [] := rfl
theorem keys_cons (x : Ent) (h : List Ent) : keys (x :: h) = x.keys ++ keys h := by simp [keys]
theorem keys_append (h k : List Ent) : keys (h ++ k) = keys h ++ keys k := by simp [keys]
theorem mem_keys {h : List Ent} {x : Ent} {g : Nat} (hx : x ∈ h) (hg : g ∈ x.keys) : g ∈ keys h := List.mem_flatMap.2 ⟨x, hx, hg⟩

theorem heap_lt {w : World} {g : Nat} {o : Obj} (h : w.heap[g]? = some o) : g < w.heap.size := (Array.getElem?_eq_some_iff.1 h).1
theorem Ent.holds_lt {w : World} {x : Ent} (h : x.holds w) {g : Nat} (hg : g ∈ x.keys) : g < w.heap.size := by
  cases x with
  | blk g' o => simp [Ent.keys] at hg; subst hg; exact heap_lt h
  | buf v e sz n xs => exact (World.ownsRow.lt h g (by simpa [Ent.keys] using hg)).2
theorem Ent.holds_keep {w w' : World} {x : Ent} (h : x.holds w) (hk : ∀ g ∈ x.keys, w'.heap[g]? = w.heap[g]?) : x.holds w' := by
  cases x with
  | blk g' o => exact (hk g' (by simp [Ent.keys])).trans h
  | buf v e sz n xs =>
    obtain ⟨h1, h2⟩ := h
    refine ⟨h1, ?_⟩
    rcases h2 with h2 | ⟨g, cap, cur, rfl, hg, hh, r⟩
    · exact .inl h2
    · exact .inr ⟨g, cap, cur, rfl, hg, (hk g (by simp [Ent.keys, Value.ownBlock])).trans hh, r⟩

structure Mem (s : Store) (h : List Ent) (w : World) : Prop where
  im : ∀ g o, s g = some o → w.heap[g]? = some o
  own : ∀ x ∈ h, x.holds w
  nd : (keys h).Nodup
  dj : ∀ g ∈ keys h, s g = none
theorem Mem.lt {s : Store} {h : List Ent} {w : World} (m : Mem s h w) {g : Nat} (hg : g ∈ keys h) : g < w.heap.size := by
  obtain ⟨x, hx, hgx⟩ := List.mem_flatMap.1 hg
  exact Ent.holds_lt (m.own x hx) hgx
theorem Mem.drew {s : Store} {h : List Ent} {w : World} (m : Mem s h w) : Mem s h w.drew := by
  refine ⟨m.im, fun x hx => ?_, m.nd, m.dj⟩
  exact Ent.holds_keep (m.own x hx) (fun _ _ => rfl)

structure Ext (D : List Nat) (w w' : World) : Prop where
  os : w'.os = w.os
  tape : w'.tape = w.tape
  output : w'.output = w.output
  size : w.heap.size ≤ w'.heap.size
  block : ∀ k, k < w.heap.size → k ∉ D → w'.heap[k]? = w.heap[k]?
theorem Ext.refl (D : List Nat) (w : World) : Ext D w w := ⟨rfl, rfl, rfl, Nat.le_refl _, fun _ _ _ => rfl⟩
theorem Ext.below {w w' : World} (h : Ext [] w w') : Below w.heap.size w w' := ⟨h.os, h.tape, h.output, h.size, fun k hk => h.block k hk (by simp)⟩
theorem Ext.of_below {D : List Nat} {w w' : World} (h : Below w.heap.size w w') : Ext D w w' := ⟨h.os, h.tape, h.output, h.size, fun k hk _ => h.block k hk⟩

structure Cur (w0 : World) (s0 : Store) (h0 : List Ent) (s : Store) (h : List Ent) (w : World) : Prop where
  mem : Mem s h w
  ext : Ext (keys h0) w0 w
  le : s0.le s
  fs : ∀ g, s g ≠ none → s0 g ≠ none ∨ w0.heap.size ≤ g ∨ g ∈ keys h0
  fh : ∀ g ∈ keys h, g ∈ keys h0 ∨ w0.heap.size ≤ g
theorem Cur.start {s : Store} {h : List Ent} {w : World} (m : Mem s h w) : Cur w s h s h w := ⟨m, Ext.refl _ _, Store.le.refl _, fun _ h => .inl h, fun _ h => .inl h⟩

/-- A step that writes at most what is owned in h1, makes new blocks, and leaves h1'. -/
theorem Cur.step {w0 w w' : World} {s0 s s' : Store} {h0 h1 h1' h2 : List Ent} (c : Cur w0 s0 h0 s (h1 ++ h2) w) (d : Cur w s h1 s' h1' w') : Cur w0 s0 h0 s' (h1' ++ h2) w' := by
  have nd := c.mem.nd
  rw [keys_append, List.nodup_append] at nd
  obtain ⟨nd1, nd2, nd12⟩ := nd
  have lt2 : ∀ g ∈ keys h2, g < w.heap.size := fun g hg => c.mem.lt (by rw [keys_append]; exact List.mem_append_right _ hg)
  have not1 : ∀ g ∈ keys h2, g ∉ keys h1 := fun g hg hg1 => nd12 g hg1 g hg rfl
  refine ⟨⟨d.mem.im, ?_, ?_, ?_⟩, ⟨d.ext.os.trans c.ext.os, d.ext.tape.trans c.ext.tape, d.ext.output.trans c.ext.output, Nat.le_trans c.ext.size d.ext.size, ?_⟩, c.le.trans d.le, ?_, ?_⟩
  · intro x hx
    rcases List.mem_append.1 hx with hx | hx
    · exact d.mem.own x hx
    · exact Ent.holds_keep (c.mem.own x (List.mem_append_right _ hx)) (fun g hg => d.ext.block g (lt2 g (mem_keys hx hg)) (not1 g (mem_keys hx hg)))
  · rw [keys_append, List.nodup_append]
    refine ⟨d.mem.nd, nd2, fun a ha b hb => ?_⟩
    rintro rfl
    rcases d.fh a ha with h | h
    · exact not1 a hb h
    · have := lt2 a hb; omega
  · intro g hg
    rw [keys_append] at hg
    rcases List.mem_append.1 hg with hg | hg
    · exact d.mem.dj g hg
    · rcases Option.eq_none_or_eq_some (s' g) with h | ⟨o, h⟩
      · exact h
      · rcases d.fs g (by simp [h]) with k | k | k
        · exact absurd (c.mem.dj g (by rw [keys_append]; exact List.mem_append_right _ hg)) k
        · have := lt2 g hg; omega
        · exact absurd k (not1 g hg)
  · intro k hk hk0
    have h1 : k ∉ keys h1 := fun h => by
      rcases c.fh k (by rw [keys_append]; exact List.mem_append_left _ h) with h' | h'
      · exact hk0 h'
      · omega
    exact (d.ext.block k (Nat.lt_of_lt_of_le hk c.ext.size) h1).trans (c.ext.block k hk hk0)
  · intro g hg
    rcases d.fs g hg with h | h | h
    · exact c.fs g h
    · exact .inr (.inl (Nat.le_trans c.ext.size h))
    · rcases c.fh g (by rw [keys_append]; exact List.mem_append_left _ h) with h' | h'
      · exact .inr (.inr h')
      · exact .inr (.inl h')
  · intro g hg
    rw [keys_append] at hg
    rcases List.mem_append.1 hg with hg | hg
    · rcases d.fh g hg with h | h
      · exact c.fh g (by rw [keys_append]; exact List.mem_append_left _ h)
      · exact .inr (Nat.le_trans c.ext.size h)
    · exact c.fh g (by rw [keys_append]; exact List.mem_append_right _ hg)
theorem Cur.step0 {w0 w w' : World} {s0 s s' : Store} {h0 h1' h2 : List Ent} (c : Cur w0 s0 h0 s h2 w) (d : Cur w s [] s' h1' w') : Cur w0 s0 h0 s' (h1' ++ h2) w' := Cur.step (h1 := []) c d
theorem Cur.drew {w0 w : World} {s0 s : Store} {h0 h : List Ent} (c : Cur w0 s0 h0 s h w) : Cur w0 s0 h0 s h w.drew :=
  ⟨c.mem.drew, ⟨c.ext.os, c.ext.tape, c.ext.output, c.ext.size, c.ext.block⟩, c.le, c.fs, c.fh⟩
theorem keys_sub {h h' : List Ent} (hs : h'.Sublist h) : (keys h').Sublist (keys h) := by
  induction hs with
  | slnil => exact List.Sublist.refl _
  | cons x _ ih => rw [keys_cons]; exact ih.trans (List.sublist_append_right _ _)
  | cons_cons x _ ih => rw [keys_cons, keys_cons]; exact List.Sublist.append (List.Sublist.refl _) ih
theorem Mem.sub {s s' : Store} {h h' : List Ent} {w : World} (m : Mem s h w) (hs : h'.Sublist h) (hle : s'.le s) : Mem s' h' w :=
  ⟨fun g o e => m.im g o (hle g o e), fun x hx => m.own x (hs.subset hx), m.nd.sublist (keys_sub hs),
   fun g hg => by
    rcases Option.eq_none_or_eq_some (s' g) with h1 | ⟨o, h1⟩
    · exact h1
    · have := m.dj g ((keys_sub hs).subset hg)
      rw [hle g o h1] at this
      cases this⟩
theorem Cur.sub {w0 w : World} {s0 s : Store} {h0 h h' : List Ent} (c : Cur w0 s0 h0 s h w) (hs : h'.Sublist h) : Cur w0 s0 h0 s h' w :=
  ⟨c.mem.sub hs (Store.le.refl _), c.ext, c.le, c.fs, fun g hg => c.fh g ((keys_sub hs).subset hg)⟩
theorem keys_perm {h h' : List Ent} (hp : h.Perm h') : (keys h).Perm (keys h') := by unfold keys; exact hp.flatMap_right _
theorem Cur.perm {w0 w : World} {s0 s : Store} {h0 h h' : List Ent} (c : Cur w0 s0 h0 s h w) (hp : h.Perm h') : Cur w0 s0 h0 s h' w :=
  ⟨⟨c.mem.im, fun x hx => c.mem.own x (hp.mem_iff.2 hx), (keys_perm hp).nodup c.mem.nd, fun g hg => c.mem.dj g ((keys_perm hp).mem_iff.2 hg)⟩, c.ext, c.le, c.fs,
   fun g hg => c.fh g ((keys_perm hp).mem_iff.2 hg)⟩
/-- One entry taken out; some entries among others. -/
inductive Pick (x : Ent) : List Ent → List Ent → Prop
  | head {h : List Ent} : Pick x (x :: h) h
  | tail {y : Ent} {h h2 : List Ent} : Pick x h h2 → Pick x (y :: h) (y :: h2)
theorem Pick.perm {x : Ent} {h h2 : List Ent} (p : Pick x h h2) : h.Perm (x :: h2) := by
  induction p with
  | head => exact List.Perm.refl _
  | tail _ ih => exact (ih.cons _).trans (List.Perm.swap _ _ _)
inductive Split : List Ent → List Ent → List Ent → Prop
  | nil {h : List Ent} : Split [] h h
  | cons {x : Ent} {hs h h2 r : List Ent} : Pick x h h2 → Split hs h2 r → Split (x :: hs) h r
theorem Split.refl : ∀ h : List Ent, Split h h []
  | [] => .nil
  | _ :: h => .cons .head (Split.refl h)
theorem Split.perm {a h r : List Ent} (p : Split a h r) : h.Perm (a ++ r) := by
  induction p with
  | nil => exact List.Perm.refl _
  | cons hp _ ih => exact hp.perm.trans (ih.cons _)
theorem Mem.hsub {s s' : Store} {h h' r : List Ent} {w : World} (m : Mem s h w) (hs : Split h' h r) (hle : s'.le s) : Mem s' h' w := by
  have hp := hs.perm
  have m' : Mem s (h' ++ r) w := ⟨m.im, fun x hx => m.own x (hp.mem_iff.2 hx), (keys_perm hp).nodup m.nd, fun g hg => m.dj g ((keys_perm hp).mem_iff.2 hg)⟩
  exact m'.sub (List.sublist_append_left _ _) hle
theorem Cur.hsub {w0 w : World} {s0 s : Store} {h0 h h' r : List Ent} (c : Cur w0 s0 h0 s h w) (hs : Split h' h r) : Cur w0 s0 h0 s h' w := (c.perm hs.perm).sub (List.sublist_append_left _ _)
/-- A new block, owned. -/
theorem Cur.alloc {w : World} {s : Store} {h : List Ent} (m : Mem s h w) (o : Obj) : Cur w s [] s [.blk w.heap.size o] (w.alloc o) := by
  refine ⟨⟨fun g o' e => ?_, fun x hx => ?_, by simp [keys, Ent.keys], fun g hg => ?_⟩, Ext.of_below ((Below.refl _ _).alloc (Nat.le_refl _) o), Store.le.refl _, fun _ h => .inl h, fun g hg => ?_⟩
  · have := m.im g o' e
    exact (Below.heap_alloc w o g (heap_lt this)).trans this
  · simp at hx
    subst hx
    exact heap_alloc_new w o
  · simp [keys, Ent.keys] at hg
    subst hg
    rcases Option.eq_none_or_eq_some (s w.heap.size) with h | ⟨o', h⟩
    · exact h
    · have := heap_lt (m.im _ _ h); omega
  · simp [keys, Ent.keys] at hg
    exact .inr (by omega)
/-- What is owned is given over to what never changes. -/
theorem Cur.freeze {w0 w : World} {s0 s : Store} {h0 h : List Ent} {g : Nat} {o : Obj} (c : Cur w0 s0 h0 s (.blk g o :: h) w) :
    Cur w0 s0 h0 (fun k => if k = g then some o else s k) h w ∧ Store.le s (fun k => if k = g then some o else s k) := by
  have nd := c.mem.nd
  rw [keys_cons, List.nodup_append] at nd
  have hs : s g = none := c.mem.dj g (by rw [keys_cons]; simp [Ent.keys])
  have hle : Store.le s (fun k => if k = g then some o else s k) := fun k o' e => by
    have : k ≠ g := fun h => by rw [h, hs] at e; cases e
    simp [this, e]
  refine ⟨⟨⟨fun k o' e => ?_, fun x hx => c.mem.own x (List.mem_cons_of_mem _ hx), nd.2.1, fun k hk => ?_⟩, c.ext, c.le.trans hle, fun k hk => ?_, fun k hk => c.fh k (by rw [keys_cons]; exact List.mem_append_right _ hk)⟩, hle⟩
  · by_cases hkg : k = g
    · subst hkg
      simp at e
      subst e
      exact c.mem.own (.blk k o) (List.mem_cons_self ..)
    · simp [hkg] at e
      exact c.mem.im k o' e
  · have hne : k ≠ g := fun h => nd.2.2 g (by simp [Ent.keys]) k hk h.symm
    simp only [hne, if_false]
    exact c.mem.dj k (by rw [keys_cons]; exact List.mem_append_right _ hk)
  · by_cases hkg : k = g
    · subst hkg
      rcases c.fh k (by rw [keys_cons]; simp [Ent.keys]) with h | h
      · exact .inr (.inr h)
      · exact .inr (.inl h)
    · simp [hkg] at hk
      exact c.fs k hk
/-- The same of a slice that is owned. -/
theorem Cur.freezeBuf {w0 w : World} {s0 s : Store} {h0 h : List Ent} {v : Value} {e : TypeId} {sz n : Nat} {xs : List Value} (c : Cur w0 s0 h0 s (.buf v e sz n xs :: h) w) :
    ∃ s', Cur w0 s0 h0 s' h w ∧ s.le s' ∧ ((v = .slice none 0 0 ∧ n = 0 ∧ xs = []) ∨ ∃ g cap cur, v = .slice (some ⟨g, 0, none⟩) n cap ∧ s' g = some (.cells cur e (0, 0)) ∧ n ≤ cap ∧ cap ≤ maxLen ∧ cur.toList.take (n * sz) = xs ∧ xs.length = n * sz) := by
  have hown : w.ownsRow 0 e sz v n xs := c.mem.own _ (List.mem_cons_self ..)
  rcases hown.2 with ⟨rfl, rfl⟩ | ⟨g, cap, cur, rfl, hbg, hg, hnc, hcm, hcs, htake⟩
  · exact ⟨s, c.sub (List.sublist_cons_self _ _), Store.le.refl _, .inl ⟨rfl, rfl, List.eq_nil_of_length_eq_zero (by simpa using hown.1)⟩⟩
  · have c' : Cur w0 s0 h0 s (.blk g (.cells cur e (0, 0)) :: h) w := by
      have hk : keys (.blk g (.cells cur e (0, 0)) :: h) = keys (.buf (.slice (some ⟨g, 0, none⟩) n cap) e sz n xs :: h) := by simp [keys, Ent.keys, Value.ownBlock]
      refine ⟨⟨c.mem.im, fun x hx => ?_, by rw [hk]; exact c.mem.nd, by rw [hk]; exact c.mem.dj⟩, c.ext, c.le, c.fs, by rw [hk]; exact c.fh⟩
      rcases List.mem_cons.1 hx with rfl | hx
      · exact hg
      · exact c.mem.own x (List.mem_cons_of_mem _ hx)
    have := c'.freeze
    exact ⟨_, this.1, this.2, .inr ⟨g, cap, cur, rfl, by simp, hnc, hcm, htake, hown.1⟩⟩
end Go.Proofs.Ytnndjobhcncanaa
