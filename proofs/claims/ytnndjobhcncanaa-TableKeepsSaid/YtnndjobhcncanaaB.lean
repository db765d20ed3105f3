/- The calculus, second part: frames, control, regions. No statement of the seat is proved here. -/
import Derived.Test.YtnndjobhcncanaaA
import Derived.Recover
namespace Go.Proofs.Ytnndjobhcncanaa
open Go.RowKit

abbrev Fr := List (Nat × Value)
def Fr.get : Fr → Nat → Option Value
  | [], _ => none
  | (j, v) :: f, i => bif Nat.beq i j then some v else Fr.get f i
def Fr.ok (f : Fr) (a : Act) : Prop := ∀ i v, f.get i = some v → a.tmps[i]? = some v
def Fr.sub : Fr → Fr → Prop
  | [], _ => True
  | (i, v) :: r, f => f.get i = some v ∧ Fr.sub r f
theorem Fr.sub_get : ∀ {f f' : Fr} {i : Nat} {v : Value}, Fr.sub f' f → f'.get i = some v → f.get i = some v
  | _, [], _, _, _, h => by simp [Fr.get] at h
  | f, (j, u) :: r, i, v, hs, h => by
    simp only [Fr.get] at h
    cases hb : Nat.beq i j with
    | true => rw [hb] at h; simp at h; subst h; rw [Nat.eq_of_beq_eq_true hb]; exact hs.1
    | false => rw [hb] at h; exact Fr.sub_get hs.2 h
theorem Fr.ok_sub {f f' : Fr} {a : Act} (h : f.ok a) (hs : Fr.sub f' f) : f'.ok a := fun i v e => h i v (Fr.sub_get hs e)
theorem Fr.ok_put {f : Fr} {a : Act} {d : Nat} {v : Value} (h : f.ok a) (hd : d < a.tmps.size) : Fr.ok ((d, v) :: f) (a.put (some d) v) := by
  intro i u e
  simp only [Fr.get] at e
  simp only [Act.put]
  cases hb : Nat.beq i d with
  | true =>
    rw [hb] at e; simp at e; subst e
    rw [Nat.eq_of_beq_eq_true hb]
    simp [hd]
  | false =>
    rw [hb] at e
    have hne : d ≠ i := fun h => by subst h; simp at hb
    rw [Array.getElem?_setIfInBounds_ne hne]
    exact h i u e
/-- An operand's value, off the frame. -/
def Fr.val (f : Fr) : Operand → Option Value
  | .tmp t => f.get t
  | .const v => some v
  | .global g => some (.pointer (some ⟨g, 0, none⟩))
  | .func g => some (.func (.func g) #[] #[])
theorem Fr.ok.eval {f : Fr} {a : Act} (h : f.ok a) {x : Operand} {v : Value} (hx : f.val x = some v) : a.eval x = v := by
  cases x with
  | tmp t =>
    have := h t v hx
    simp only [Act.eval]
    rw [Array.getD_eq_getD_getElem?, this]; rfl
  | const u => simp [Fr.val] at hx; exact hx
  | global g => simp [Fr.val] at hx; exact hx
  | func g => simp [Fr.val] at hx; exact hx

structure Ctx where
  fid : FuncId
  fn : Func
  w0 : World
  s0 : Store
  h0 : List Ent
  post : Ending → Store → List Ent → Prop
  D : List Deferred
def Ctx.R (C : Ctx) (e : Ending) (w' : World) : Prop := ∃ s' h', C.post e s' h' ∧ Cur C.w0 C.s0 C.h0 s' h' w'
abbrev Ctx.cur (C : Ctx) (s : Store) (h : List Ent) (w : World) : Prop := Cur C.w0 C.s0 C.h0 s h w

/-- What is known of a function's own frame: its number, its text, what it is to show; nothing is deferred. -/
structure Ctx.Is (P : Program) (C : Ctx) (fid0 : FuncId) (fn0 : Func) (post0 : Ending → Store → List Ent → Prop) : Prop where
  fid : C.fid = fid0
  fn : C.fn = fn0
  post : C.post = post0
  fc : P.funcs[fid0]? = some fn0
  D : C.D = []
/-- A function's contract: called where s is laid and h is owned, it ends as post says; it writes nothing but what h owns. -/
def Fn (P : Program) (f : FuncId) (args : Array Value) (s : Store) (h : List Ent) (post : Ending → Store → List Ent → Prop) : Prop :=
  ∀ w, Mem s h w → Calls P f args w fun e w' => ∃ s' h', post e s' h' ∧ Cur w s h s' h' w'
theorem Fn.mono {P : Program} {f : FuncId} {args : Array Value} {s : Store} {h : List Ent} {post post' : Ending → Store → List Ent → Prop} (H : Fn P f args s h post)
    (hp : ∀ e s' h', s.le s' → post e s' h' → post' e s' h') : Fn P f args s h post' :=
  fun w m => (H w m).mono fun _ _ ⟨s', h', p, c⟩ => ⟨s', h', hp _ _ _ c.le p, c⟩

section
variable (P : Program) (C : Ctx)
def Go (todo : List Item) (a : Act) (w : World) : Prop :=
  ∀ (b : Frame) (cs : List Frame), b.fn = C.fid → b.kind = .normal → ∃ e w' fr, C.R e w' ∧ Comes P (lone (b.at a todo) cs w) (lone fr cs w') e ∧ fr.fn = C.fid ∧ fr.leaving P w' e
def G (n : Nat) (todo : List Item) (f : Fr) (s : Store) (h : List Ent) : Prop :=
  ∀ a w, a.tmps.size = n → f.ok a → a.defers = C.D → C.cur s h w → Go P C todo a w
end

section
variable {P : Program} {C : Ctx} {n : Nat} {k : List Item} {f : Fr} {s : Store} {h : List Ent}
theorem Go.of_step {todo todo' : List Item} {a a' : Act} {w w' : World} (hs : ∀ (b : Frame) cs, step P (lone (b.at a todo) cs w) = .next (lone (b.at a' todo') cs w')) (H : Go P C todo' a' w') : Go P C todo a w :=
  fun b cs hb hk => let ⟨e, w2, fr, r, c, x⟩ := H b cs hb hk; ⟨e, w2, fr, r, Comes.of_steps (.one (hs b cs)) c, x⟩
theorem G.of_step {todo todo' : List Item} (hs : ∀ a w (b : Frame) cs, step P (lone (b.at a todo) cs w) = .next (lone (b.at a todo') cs w)) (H : G P C n todo' f s h) : G P C n todo f s h :=
  fun a w h1 h2 h3 h4 => Go.of_step (hs a w) (H a w h1 h2 h3 h4)
theorem G.seq {x y : Code} (H : G P C n (.code x :: .code y :: k) f s h) : G P C n (.code (.seq x y) :: k) f s h := G.of_step (fun _ _ _ _ => step_seq) H
theorem G.skip (H : G P C n k f s h) : G P C n (.code .skip :: k) f s h := G.of_step (fun _ _ _ _ => step_skip) H
theorem G.label {l : Nat} (H : G P C n k f s h) : G P C n (.code (.label l) :: k) f s h := G.of_step (fun _ _ _ _ => step_label) H
theorem G.block {id : Nat} {c : Code} (H : G P C n (.code c :: .inBlock id :: k) f s h) : G P C n (.code (.block id c) :: k) f s h := G.of_step (fun _ _ _ _ => step_block) H
theorem G.inBlock {id : Nat} (H : G P C n k f s h) : G P C n (.inBlock id :: k) f s h := G.of_step (fun _ _ _ _ => step_inBlock) H
theorem G.exit {id : Nat} {k' : List Item} (he : exitTo id k = some k') (H : G P C n k' f s h) : G P C n (.code (.exit id) :: k) f s h := G.of_step (fun _ _ _ _ => step_exit he) H
theorem G.inLoop {c : Code} (H : G P C n (.code c :: .inLoop c :: k) f s h) : G P C n (.inLoop c :: k) f s h := G.of_step (fun _ _ _ _ => step_inLoop) H
theorem G.condB {c : Operand} {x y : Code} {t : Bool} (hc : f.val c = some (.bool t)) (H : G P C n (.code (if t then x else y) :: k) f s h) : G P C n (.code (.cond c x y) :: k) f s h :=
  fun a w h1 h2 h3 h4 => Go.of_step (fun _ _ => step_cond (Fr.ok.eval h2 hc)) (H a w h1 h2 h3 h4)
theorem G.cond {p : Prop} [Decidable p] {c : Operand} {x y : Code} (hc : f.val c = some (.bool (decide p))) (H1 : p → G P C n (.code x :: k) f s h) (H2 : ¬ p → G P C n (.code y :: k) f s h) : G P C n (.code (.cond c x y) :: k) f s h := by
  refine G.condB hc ?_
  by_cases hp : p
  · simp only [hp, decide_true, if_true]; exact H1 hp
  · simp only [hp, decide_false, Bool.false_eq_true, if_false]; exact H2 hp
theorem G.condT {c : Operand} {x y : Code} (hc : f.val c = some (.bool true)) (H : G P C n (.code x :: k) f s h) : G P C n (.code (.cond c x y) :: k) f s h := G.condB hc H
theorem G.condF {c : Operand} {x y : Code} (hc : f.val c = some (.bool false)) (H : G P C n (.code y :: k) f s h) : G P C n (.code (.cond c x y) :: k) f s h := G.condB hc H
theorem G.condYes {p : Prop} [Decidable p] {c : Operand} {x y : Code} (hc : f.val c = some (.bool (decide p))) (hp : p) (H : G P C n (.code x :: k) f s h) : G P C n (.code (.cond c x y) :: k) f s h := G.cond hc (fun _ => H) (fun h => absurd hp h)
theorem G.condNo {p : Prop} [Decidable p] {c : Operand} {x y : Code} (hc : f.val c = some (.bool (decide p))) (hp : ¬ p) (H : G P C n (.code y :: k) f s h) : G P C n (.code (.cond c x y) :: k) f s h := G.cond hc (fun h => absurd h hp) (fun _ => H)
theorem G.condS {t : Bool} {c : Operand} {x y : Code} (hc : f.val c = some (.bool t)) (H1 : t = true → G P C n (.code x :: k) f s h) (H2 : t = false → G P C n (.code y :: k) f s h) : G P C n (.code (.cond c x y) :: k) f s h := by
  cases t
  · exact G.condB hc (H2 rfl)
  · exact G.condB hc (H1 rfl)
theorem G.frame {f' : Fr} {todo : List Item} (hs : Fr.sub f' f) (H : G P C n todo f' s h) : G P C n todo f s h := fun a w h1 h2 h3 h4 => H a w h1 (Fr.ok_sub h2 hs) h3 h4
theorem G.sub {h' r : List Ent} {todo : List Item} (hs : Split h' h r) (H : G P C n todo f s h') : G P C n todo f s h := fun a w h1 h2 h3 h4 => H a w h1 h2 h3 (h4.hsub hs)
theorem G.perm {h' : List Ent} {todo : List Item} (hs : h.Perm h') (H : G P C n todo f s h') : G P C n todo f s h := fun a w h1 h2 h3 h4 => H a w h1 h2 h3 (h4.perm hs)
/-- A loop: its states are told by x. -/
theorem G.loop {σ : Type} {c : Code} (F : σ → Fr) (H : σ → List Ent) (Φ : σ → Store → Prop) (μ : σ → Nat) (x0 : σ) (hf : Fr.sub (F x0) f) {r0 : List Ent} (hh : Split (H x0) h r0) (hΦ : Φ x0 s)
    (round : ∀ x s, Φ x s → (∀ x' f' s' h' r', Fr.sub (F x') f' → Split (H x') h' r' → Φ x' s' → μ x' < μ x → G P C n (.inLoop c :: k) f' s' h') → G P C n (.code c :: .inLoop c :: k) (F x) s (H x)) :
    G P C n (.code (.loop c) :: k) f s h := by
  have key : ∀ m x s, μ x = m → Φ x s → G P C n (.code c :: .inLoop c :: k) (F x) s (H x) := by
    intro m
    induction m using Nat.strongRecOn with
    | _ m ih =>
      intro x s hm hx
      refine round x s hx fun x' f' s' h' r' hf' hh' hx' hlt => ?_
      exact G.inLoop (G.sub hh' (G.frame hf' (ih (μ x') (hm ▸ hlt) x' s' rfl hx')))
  exact G.of_step (fun _ _ _ _ => step_loop) (G.sub hh (G.frame hf (key _ x0 s rfl hΦ)))

/-! ### The end of a function -/
def resOf (P : Program) (f : Fr) (h : List Ent) (fn : Func) (v : Value) : Prop := ∀ a w s, f.ok a → Mem s h w → (results fn a.tmps).run P w = .ok v w
/-- What is deferred is carried out, and then the function ends as it is to. -/
def GR (P : Program) (C : Ctx) (n : Nat) (u : FrameMode) (f : Fr) (s : Store) (h : List Ent) : Prop :=
  P.funcs[C.fid]? = some C.fn ∧ ∀ a w, a.tmps.size = n → f.ok a → a.defers = C.D → C.cur s h w → Leaves P C.fn a.tmps C.R a.defers u w
theorem G.leave (H : GR P C n .returning f s h) : G P C n (.code .ret :: k) f s h := by
  intro a w h1 h2 h3 h4 b cs hb hk
  obtain ⟨e, w', fr, r, c, x, y⟩ := leaves_steps (cs := cs) a.defers .returning w { b.at a (.code .ret :: k) with mode := .returning } rfl rfl rfl (by show P.funcs[b.fn]? = _; rw [hb]; exact H.1) hk (H.2 a w h1 h2 h3 h4)
  exact ⟨e, w', fr, r, Comes.of_steps (.one step_ret) c, x.trans hb, y⟩
theorem G.fall (H : GR P C n .returning f s h) : G P C n [] f s h := by
  intro a w h1 h2 h3 h4 b cs hb hk
  obtain ⟨e, w', fr, r, c, x, y⟩ := leaves_steps (cs := cs) a.defers .returning w { b.at a [] with mode := .returning } rfl rfl rfl (by show P.funcs[b.fn]? = _; rw [hb]; exact H.1) hk (H.2 a w h1 h2 h3 h4)
  exact ⟨e, w', fr, r, Comes.of_steps (.one step_end) c, x.trans hb, y⟩
theorem GR.ret {fid : FuncId} {fn : Func} {post : Ending → Store → List Ent → Prop} {v : Value} (ok : Ctx.Is P C fid fn post) (hr : resOf P f h fn v) (hp : post (.returned v) s h) : GR P C n .returning f s h := by
  refine ⟨by rw [ok.fid, ok.fn]; exact ok.fc, fun a w h1 h2 h3 h4 => ?_⟩
  rw [h3, ok.D]
  exact ⟨v, by rw [ok.fn]; exact hr a w s h2 h4.mem, s, h, by rw [ok.post]; exact hp, h4⟩
theorem GR.panic {fid : FuncId} {fn : Func} {post : Ending → Store → List Ent → Prop} {ch : List PanicEntry} (ok : Ctx.Is P C fid fn post) (hp : post (.panicked ch) s h) : GR P C n (.panicking ch) f s h := by
  refine ⟨by rw [ok.fid, ok.fn]; exact ok.fc, fun a w h1 h2 h3 h4 => ?_⟩
  rw [h3, ok.D]
  exact ⟨s, h, by rw [ok.post]; exact hp, h4⟩
theorem G.retv {fid : FuncId} {fn : Func} {post : Ending → Store → List Ent → Prop} {v : Value} (ok : Ctx.Is P C fid fn post) (hr : resOf P f h fn v) (hp : post (.returned v) s h) : G P C n (.code .ret :: k) f s h := G.leave (GR.ret ok hr hp)
theorem G.endv {fid : FuncId} {fn : Func} {post : Ending → Store → List Ent → Prop} {v : Value} (ok : Ctx.Is P C fid fn post) (hr : resOf P f h fn v) (hp : post (.returned v) s h) : G P C n [] f s h := G.fall (GR.ret ok hr hp)

/-! ### The beginning -/
def argFr : Nat → List Value → Fr
  | _, [] => []
  | i, v :: vs => (i, v) :: argFr (i + 1) vs
theorem argFr_get : ∀ (vs : List Value) (i j : Nat) (v : Value), (argFr i vs).get j = some v → i ≤ j ∧ vs[j - i]? = some v
  | [], i, j, v, h => by simp [argFr, Fr.get] at h
  | u :: vs, i, j, v, h => by
    simp only [argFr, Fr.get] at h
    cases hb : Nat.beq j i with
    | true =>
      rw [hb] at h; simp at h; subst h
      have := Nat.eq_of_beq_eq_true hb
      subst this
      simp
    | false =>
      rw [hb] at h
      have ⟨h1, h2⟩ := argFr_get vs (i + 1) j v h
      refine ⟨by omega, ?_⟩
      rw [show j - i = (j - (i + 1)) + 1 from by omega]
      simpa using h2
theorem Fn.intro {fid : FuncId} {fn : Func} {c : Code} {args : List Value} {post : Ending → Store → List Ent → Prop} (hf : P.funcs[fid]? = some fn) (hb : fn.body = some c) (hn : fn.ntmps = n) (ha : args.length ≤ n)
    (H : ∀ C : Ctx, Ctx.Is P C fid fn post → C.h0 = h → G P C n [.code c] (argFr 0 args) s h) : Fn P fid args.toArray s h post := by
  intro w m cs
  have h0 := H ⟨fid, fn, w, s, h, post, []⟩ ⟨rfl, rfl, rfl, hf, rfl⟩ rfl
  let b : Frame := { (default : Frame) with fn := fid, kind := .normal }
  have henter : Frame.enter P fid args.toArray .normal =
      b.at { tmps := args.toArray ++ Array.replicate (fn.ntmps - args.toArray.size) undef, defers := [] } [.code c] := by
    simp [Frame.enter, Frame.at, hf, hb, b]
  rw [henter]
  refine h0 _ w ?_ ?_ rfl (Cur.start m) b cs rfl rfl
  · simp [hn]; omega
  · intro i v e
    have ⟨_, h2⟩ := argFr_get args 0 i v e
    simp at h2
    have hlt : i < args.length := (List.getElem?_eq_some_iff.1 h2).1
    rw [Array.getElem?_append_left (by simpa using hlt)]
    simpa using h2

/-! ### Plain regions -/
def QK (P : Program) (C : Ctx) (k : List Item) : Exit → Act → World → Prop
  | .normal, a, w => a.defers = C.D → Go P C k a w
  | .panic ch, a, w => a.defers = C.D → P.funcs[C.fid]? = some C.fn ∧ ∃ tmps, a.tmps = tmps ∧ Leaves P C.fn tmps C.R C.D (.panicking ch) w
  | _, _, _ => False
theorem Go.of_wp {c : Code} {a : Act} {w : World} (h : c.wp P (fun e a' w' => a'.defers = C.D ∧ QK P C k e a' w') a w) : Go P C (.code c :: k) a w := by
  intro b cs hb hk
  obtain ⟨e, a', w', ⟨hd, hq⟩, arr⟩ := h b k cs
  cases e with
  | normal =>
    obtain ⟨e, w2, fr, r, c, x⟩ := hq hd b cs hb hk
    exact ⟨e, w2, fr, r, Comes.of_steps arr c, x⟩
  | panic ch =>
    obtain ⟨todo, hs⟩ := arr
    obtain ⟨h1, tmps, rfl, h2⟩ := hq hd
    obtain ⟨e, w2, fr, r, c, x, y⟩ := leaves_steps (cs := cs) C.D (.panicking ch) w' { b.at a' todo with mode := .panicking ch } rfl hd rfl (by show P.funcs[b.fn]? = _; rw [hb]; exact h1) hk h2
    exact ⟨e, w2, fr, r, Comes.of_steps hs c, x.trans hb, y⟩
  | _ => exact hq.elim
def GL (P : Program) (C : Ctx) (n : Nat) (ops : Array Oper) (os : List Oper) (k : List Item) (f : Fr) (s : Store) (h : List Ent) : Prop :=
  ∀ is : List Nat, is.map (ops[·]?) = os.map some → ∀ a w, a.tmps.size = n → f.ok a → a.defers = C.D → C.cur s h w → wpOps P ops (fun e a' w' => a'.defers = C.D ∧ QK P C k e a' w') is a w
theorem G.region {id : Nat} {l : List Oper} (H : GL P C n l.toArray l k f s h) : G P C n (.code (.region id l.toArray false) :: k) f s h := by
  intro a w h1 h2 h3 h4
  refine Go.of_wp (wp_region (H _ ?_ a w h1 h2 h3 h4))
  apply List.ext_getElem?
  intro i
  simp only [List.size_toArray, List.getElem?_map]
  by_cases hi : i < l.length
  · simp [List.getElem?_range hi, List.getElem?_eq_getElem hi]
  · simp [List.getElem?_eq_none (show l.length ≤ i by omega), List.getElem?_eq_none (show (List.range l.length).length ≤ i by simp; omega)]
variable {ops : Array Oper} {os : List Oper} {o : Oper}
theorem GL.nil (H : G P C n k f s h) : GL P C n ops [] k f s h := by
  intro is hi a w h1 h2 h3 h4
  have : is = [] := by simpa using hi
  subst this
  exact ⟨h3, fun _ => H a w h1 h2 h3 h4⟩
theorem GL.frame {f' : Fr} (hs : Fr.sub f' f) (H : GL P C n ops os k f' s h) : GL P C n ops os k f s h := fun is hi a w h1 h2 h3 h4 => H is hi a w h1 (Fr.ok_sub h2 hs) h3 h4
theorem GL.sub {h' r : List Ent} (hs : Split h' h r) (H : GL P C n ops os k f s h') : GL P C n ops os k f s h := fun is hi a w h1 h2 h3 h4 => H is hi a w h1 h2 h3 (h4.hsub hs)
theorem GL.perm {h' : List Ent} (hs : h.Perm h') (H : GL P C n ops os k f s h') : GL P C n ops os k f s h := fun is hi a w h1 h2 h3 h4 => H is hi a w h1 h2 h3 (h4.perm hs)

/-- Whether an operation is carried out, off the frame. -/
def Wants (ops : Array Oper) (f : Fr) (o : Oper) (t : Bool) : Prop := ∀ a : Act, f.ok a → Region.wanted o (yielded ops a.tmps) = t
theorem Wants.all (h : o.guard = none) : Wants ops f o true := fun a _ => by simp [Region.wanted, h]
theorem Wants.at_ {j d : Nat} {want b t : Bool} (h : o.guard = some (j, want)) (hj : ((ops[j]?).bind (·.dst)) = some d) (hv : f.get d = some (.bool b)) (ht : (b == want) = t) : Wants ops f o t := fun a ha => by
  have := ha d _ hv
  simp only [Region.wanted, h, yielded, hj, Option.bind_some, this]
  subst ht
  cases b <;> cases want <;> rfl

theorem Wants.un {j d : Nat} {want : Bool} (h : o.guard = some (j, want)) (hj : ((ops[j]?).bind (·.dst)) = some d) (hv : f.get d = some undef) : Wants ops f o false := fun a ha => by
  have := ha d _ hv
  simp only [Region.wanted, h, yielded, hj, Option.bind_some, this]
  rfl

/-- What an operation yields, in every world in which s is laid and h is owned; it changes nothing. -/
def PEv (P : Program) (f : Fr) (s : Store) (h : List Ent) (o : Oper) (v : Value) : Prop := ∀ a w, f.ok a → Mem s h w → (execOp a.eval o).run P w = .ok (.value v) w
/-- What an operation does that may change the world: what it leaves is told by next. -/
def Eff (P : Program) (f : Fr) (s : Store) (h : List Ent) (o : Oper) (next : Ending → Store → List Ent → Prop) : Prop :=
  ∀ a w (K : Act → World → Prop) (Q : Exit → Act → World → Prop), f.ok a → Mem s h w → (∀ v s' h' w', next (.returned v) s' h' → Cur w s h s' h' w' → K (a.put o.dst v) w') →
    (∀ ch s' h' w', next (.panicked ch) s' h' → Cur w s h s' h' w' → Q (.panic ch) a w') → o.wp P a w K Q
theorem Eff.of_pev {v : Value} (hp : PEv P f s h o v) : Eff P f s h o (fun e s' h' => e = .returned v ∧ s' = s ∧ h' = h) := fun a w K Q h1 h2 h3 _ => by
  unfold Oper.wp
  rw [hp a w h1 h2]
  exact h3 v s h w ⟨rfl, rfl, rfl⟩ (Cur.start h2)
theorem act_size {a : Act} {d : Option Tmp} {v : Value} : (a.put d v).tmps.size = a.tmps.size := by cases d <;> simp [Act.put]
theorem act_defers {a : Act} {d : Option Tmp} {v : Value} : (a.put d v).defers = a.defers := by cases d <;> rfl
theorem Cur.after {w0 w w' : World} {s0 s s' : Store} {h0 h h' : List Ent} (c : Cur w0 s0 h0 s h w) (d : Cur w s h s' h' w') : Cur w0 s0 h0 s' h' w' := by
  have := Cur.step (h2 := []) (by simpa using c) d
  simpa using this
theorem wpOps_cons {is' : List Nat} {i : Nat} {a : Act} {w : World} {Q : Exit → Act → World → Prop} (ho : ops[i]? = some o) (hw : Region.wanted o (yielded ops a.tmps) = true) (H : o.wp P a w (wpOps P ops Q is') Q) : wpOps P ops Q (i :: is') a w := by
  simp only [wpOps, ho, hw, if_true]
  exact .inl H
theorem is_cons {is : List Nat} (hi : is.map (ops[·]?) = (o :: os).map some) : ∃ i is', is = i :: is' ∧ ops[i]? = some o ∧ is'.map (ops[·]?) = os.map some := by
  cases is with
  | nil => simp at hi
  | cons i is' =>
    simp only [List.map_cons, List.cons.injEq] at hi
    exact ⟨i, is', rfl, hi.1, hi.2⟩
theorem GL.eff {d : Tmp} {next : Ending → Store → List Ent → Prop} (hd : o.dst = some d) (hw : Wants ops f o true) (he : Eff P f s h o next) (hn : Nat.blt d n = true)
    (H : ∀ v s' h', next (.returned v) s' h' → s.le s' → GL P C n ops os k ((d, v) :: f) s' h')
    (HP : ∀ ch s' h', next (.panicked ch) s' h' → s.le s' → GR P C n (.panicking ch) f s' h') : GL P C n ops (o :: os) k f s h := by
  intro is hi a w h1 h2 h3 h4
  obtain ⟨i, is', rfl, ho, hi'⟩ := is_cons hi
  refine wpOps_cons ho (hw a h2) (he a w _ _ h2 h4.mem (fun v s' h' w' hx c => ?_) (fun ch s' h' w' hx c => ⟨h3, fun _ => ?_⟩))
  · rw [hd]
    refine H v s' h' hx c.le is' hi' _ w' (act_size.trans h1) (Fr.ok_put h2 (by rw [h1]; simpa [Nat.blt_eq] using hn)) (act_defers.trans h3) (Cur.after h4 c)
  · have ⟨x, y⟩ := HP ch s' h' hx c.le
    exact ⟨x, _, rfl, h3 ▸ y a w' h1 h2 h3 (Cur.after h4 c)⟩
theorem GL.eff0 {next : Ending → Store → List Ent → Prop} (hd : o.dst = none) (hw : Wants ops f o true) (he : Eff P f s h o next)
    (H : ∀ v s' h', next (.returned v) s' h' → s.le s' → GL P C n ops os k f s' h')
    (HP : ∀ ch s' h', next (.panicked ch) s' h' → s.le s' → GR P C n (.panicking ch) f s' h') : GL P C n ops (o :: os) k f s h := by
  intro is hi a w h1 h2 h3 h4
  obtain ⟨i, is', rfl, ho, hi'⟩ := is_cons hi
  refine wpOps_cons ho (hw a h2) (he a w _ _ h2 h4.mem (fun v s' h' w' hx c => ?_) (fun ch s' h' w' hx c => ⟨h3, fun _ => ?_⟩))
  · rw [hd]
    exact H v s' h' hx c.le is' hi' _ w' h1 h2 h3 (Cur.after h4 c)
  · have ⟨x, y⟩ := HP ch s' h' hx c.le
    exact ⟨x, _, rfl, h3 ▸ y a w' h1 h2 h3 (Cur.after h4 c)⟩
theorem GL.pure {d : Tmp} {v : Value} (hd : o.dst = some d) (hw : Wants ops f o true) (he : PEv P f s h o v) (hn : Nat.blt d n = true) (H : GL P C n ops os k ((d, v) :: f) s h) : GL P C n ops (o :: os) k f s h := by
  refine GL.eff hd hw (Eff.of_pev he) hn ?_ (fun _ _ _ h => by simp at h)
  rintro v' s' h' ⟨e, rfl, rfl⟩ _
  cases e
  exact H
theorem GL.off {d : Tmp} (hd : o.dst = some d) (hw : Wants ops f o false) (hn : Nat.blt d n = true) (H : GL P C n ops os k ((d, undef) :: f) s h) : GL P C n ops (o :: os) k f s h := by
  intro is hi a w h1 h2 h3 h4
  obtain ⟨i, is', rfl, ho, hi'⟩ := is_cons hi
  simp only [wpOps, ho, hw a h2, Bool.false_eq_true, if_false, hd]
  exact H is' hi' _ w (act_size.trans h1) (Fr.ok_put h2 (by rw [h1]; simpa [Nat.blt_eq] using hn)) (act_defers.trans h3) h4
/-- A test's value is told apart. -/
theorem GL.split {p : Prop} [Decidable p] {d : Nat} (hv : f.get d = some (.bool (decide p))) (H1 : p → GL P C n ops os k ((d, .bool true) :: f) s h) (H2 : ¬ p → GL P C n ops os k ((d, .bool false) :: f) s h) : GL P C n ops os k f s h := by
  have hs : ∀ b : Bool, decide p = b → Fr.get f d = some (.bool b) := fun b hb => by rw [hv, hb]
  have key : ∀ b : Bool, decide p = b → GL P C n ops os k ((d, .bool b) :: f) s h → GL P C n ops os k f s h := fun b hb H is hi a w h1 h2 h3 h4 => by
    refine H is hi a w h1 (fun i v e => ?_) h3 h4
    simp only [Fr.get] at e
    cases hbd : Nat.beq i d with
    | true => rw [hbd] at e; simp at e; subst e; rw [Nat.eq_of_beq_eq_true hbd]; exact h2 d _ (hs b hb)
    | false => rw [hbd] at e; exact h2 i v e
  by_cases hp : p
  · exact key true (by simp [hp]) (H1 hp)
  · exact key false (by simp [hp]) (H2 hp)

/-! ### Regions that draw their order -/
open Go.Proofs.YtnndjobhcncanaaW.PrintLast in
/-- What has come up is told by l; S is what every world meets that an operation leaves, those of ds apart. -/
def GD (P : Program) (C : Ctx) (n : Nat) (ops : Array Oper) (sS : Store) (hS : List Ent) (ds : List Nat) (m : Nat) (l : Array Bool) (k : List Item) (f : Fr) (s : Store) (h : List Ent) : Prop :=
  ∀ a w, a.tmps.size = n → f.ok a → a.defers = C.D → C.cur s h w → wpAnyLast P .any ops (fun e a' w' => a'.defers = C.D ∧ QK P C k e a' w') (Mem sS hS) ds m l a w
variable {sS : Store} {hS : List Ent} {ds : List Nat} {m : Nat} {l : Array Bool}
open Go.Proofs.YtnndjobhcncanaaW.PrintLast in
theorem G.draw {id m : Nat} {ops : Array Oper} (hS : List Ent) (ds : List Nat) (l : Array Bool) (hm : P.follows .mixedOrders = true) (hn : ops.size = m) (hl : Array.replicate m false = l) {r : List Ent} (hs : Split hS h r)
    (H : GD P C n ops s hS ds m l k f s h) : G P C n (.code (.region id ops true) :: k) f s h := by
  intro a w h1 h2 h3 h4
  exact Go.of_wp (start_ l hm hn hl (h4.mem.drew.hsub hs (Store.le.refl _)) (fun _ => H a w.drew h1 h2 h3 h4.drew))
open Go.Proofs.YtnndjobhcncanaaW.PrintLast in
theorem GD.done (hr : (Region.ready .any ops l == []) = true) (H : G P C n k f s h) : GD P C n ops sS hS ds m l k f s h :=
  fun a w h1 h2 h3 h4 => done_ hr ⟨h3, fun _ => H a w h1 h2 h3 h4⟩
theorem leaves_put {a : Act} {d : Option Tmp} {v : Value} {fn : Func} {R : Ending → World → Prop} {ch : List PanicEntry} {w : World} (h : Leaves P fn (a.put d v).tmps R [] (.panicking ch) w) : Leaves P fn a.tmps R [] (.panicking ch) w := h
theorem QKput {d : Option Tmp} {v : Value} (hD : C.D = []) (c : List PanicEntry) (a : Act) (w : World) (h : (a.put d v).defers = C.D ∧ QK P C k (.panic c) (a.put d v) w) : a.defers = C.D ∧ QK P C k (.panic c) a w := by
  rw [act_defers] at h
  refine ⟨h.1, fun h3 => ?_⟩
  obtain ⟨x, tmps, rfl, y⟩ := h.2 (by rw [act_defers]; exact h3)
  refine ⟨x, _, rfl, ?_⟩
  rw [hD] at y ⊢
  exact leaves_put y
open Go.Proofs.YtnndjobhcncanaaW.PrintLast in
/-- A read, taken first. -/
theorem GD.take (hD : C.D = []) {i : Nat} {d : Tmp} {v : Value} (l' : Array Bool) (hi : ops[i]? = some o) (hd : o.dst = some d) (hc : takeB .any ops ds l l' i = true) (hw : Wants ops f o true) (he : PEv P f sS hS o v) (hle : sS.le s) {r : List Ent} (hsub : Split hS h r) (hn : Nat.blt d n = true)
    (H : GD P C n ops sS hS ds m l' k ((d, v) :: f) s h) : GD P C n ops sS hS ds (m + 1) l k f s h :=
  fun a w h1 h2 h3 h4 => take_ l' hi hd hc (fun c a w => QKput hD c a w) (.inl ⟨hw a h2, fun w' hw' => he a w' h2 hw'⟩) (h4.mem.hsub hsub hle) rfl
    (H _ w (act_size.trans h1) (Fr.ok_put h2 (by rw [h1]; simpa [Nat.blt_eq] using hn)) (act_defers.trans h3) h4)
open Go.Proofs.YtnndjobhcncanaaW.PrintLast in
theorem GD.off (hD : C.D = []) {i : Nat} {d : Tmp} (l' : Array Bool) (hi : ops[i]? = some o) (hd : o.dst = some d) (hc : anyB .any ops l l' i = true) (hw : Wants ops f o false) (hn : Nat.blt d n = true)
    (H : GD P C n ops sS hS ds m l' k ((d, undef) :: f) s h) : GD P C n ops sS hS ds (m + 1) l k f s h :=
  fun a w h1 h2 h3 h4 => pure_ l' hi hd hc (fun c a w => QKput hD c a w) (.inr ⟨hw a h2, rfl⟩) rfl
    (H _ w (act_size.trans h1) (Fr.ok_put h2 (by rw [h1]; simpa [Nat.blt_eq] using hn)) (act_defers.trans h3) h4)
open Go.Proofs.YtnndjobhcncanaaW.PrintLast in
/-- A value that hangs on no world. -/
theorem GD.any (hD : C.D = []) {i : Nat} {d : Tmp} {v : Value} (l' : Array Bool) (hi : ops[i]? = some o) (hd : o.dst = some d) (hc : anyB .any ops l l' i = true) (hw : Wants ops f o true) (he : PEv P f (fun _ => none) [] o v) (hn : Nat.blt d n = true)
    (H : GD P C n ops sS hS ds m l' k ((d, v) :: f) s h) : GD P C n ops sS hS ds (m + 1) l k f s h :=
  fun a w h1 h2 h3 h4 => pure_ l' hi hd hc (fun c a w => QKput hD c a w) (.inl ⟨hw a h2, fun w' => he a w' h2 ⟨fun _ _ h => by simp at h, fun _ h => by simp at h, by simp [keys], fun _ h => by simp [keys] at h⟩⟩) rfl
    (H _ w (act_size.trans h1) (Fr.ok_put h2 (by rw [h1]; simpa [Nat.blt_eq] using hn)) (act_defers.trans h3) h4)
open Go.Proofs.YtnndjobhcncanaaW.PrintLast in
/-- One operation alone may come up now; it acts. -/
theorem GD.eff {i : Nat} {d : Tmp} {next : Ending → Store → List Ent → Prop} (l' : Array Bool) (hi : ops[i]? = some o) (hd : o.dst = some d) (hc : readyB .any ops l l' i = true) (hds : i ∉ ds) (hw : Wants ops f o true) (he : Eff P f s h o next) (hle : sS.le s) (hn : Nat.blt d n = true)
    (hkeep : ∀ v s' h', next (.returned v) s' h' → ∃ r, Split hS h' r)
    (H : ∀ v s' h', next (.returned v) s' h' → s.le s' → GD P C n ops sS hS ds m l' k ((d, v) :: f) s' h')
    (HP : ∀ ch s' h', next (.panicked ch) s' h' → s.le s' → GR P C n (.panicking ch) f s' h') : GD P C n ops sS hS ds (m + 1) l k f s h :=
  fun a w h1 h2 h3 h4 => one_ l' hi hd hc hds fun K hK => by
    rw [if_pos (hw a h2)]
    refine he a w K _ h2 h4.mem (fun v s' h' w' hx c => ?_) (fun ch s' h' w' hx c => ⟨h3, fun _ => ?_⟩)
    · rw [hd]
      obtain ⟨r, hr⟩ := hkeep v s' h' hx
      refine hK _ w' (c.mem.hsub hr (hle.trans c.le)) (fun _ => H v s' h' hx c.le _ w' (act_size.trans h1) (Fr.ok_put h2 (by rw [h1]; simpa [Nat.blt_eq] using hn)) (act_defers.trans h3) (Cur.after h4 c))
    · have ⟨x, y⟩ := HP ch s' h' hx c.le
      exact ⟨x, _, rfl, h3 ▸ y a w' h1 h2 h3 (Cur.after h4 c)⟩
open Go.Proofs.YtnndjobhcncanaaW.PrintLast in
/-- The same behind which nothing of S is told (a last store). -/
theorem GD.last0 {i : Nat} {next : Ending → Store → List Ent → Prop} (l' : Array Bool) (hi : ops[i]? = some o) (hd : o.dst = none) (hc : readyB .any ops l l' i = true) (hds : i ∈ ds) (hw : Wants ops f o true) (he : Eff P f s h o next)
    (H : ∀ v s' h', next (.returned v) s' h' → s.le s' → GD P C n ops sS hS ds m l' k f s' h')
    (HP : ∀ ch s' h', next (.panicked ch) s' h' → s.le s' → GR P C n (.panicking ch) f s' h') : GD P C n ops sS hS ds (m + 1) l k f s h :=
  fun a w h1 h2 h3 h4 => last_ l' hi hd hc hds fun K hK => by
    rw [if_pos (hw a h2)]
    refine he a w K _ h2 h4.mem (fun v s' h' w' hx c => ?_) (fun ch s' h' w' hx c => ⟨h3, fun _ => ?_⟩)
    · rw [hd]
      exact hK _ w' (H v s' h' hx c.le _ w' h1 h2 h3 (Cur.after h4 c))
    · have ⟨x, y⟩ := HP ch s' h' hx c.le
      exact ⟨x, _, rfl, h3 ▸ y a w' h1 h2 h3 (Cur.after h4 c)⟩
theorem GD.frame {f' : Fr} (hs : Fr.sub f' f) (H : GD P C n ops sS hS ds m l k f' s h) : GD P C n ops sS hS ds m l k f s h := fun a w h1 h2 h3 h4 => H a w h1 (Fr.ok_sub h2 hs) h3 h4
theorem GD.split {p : Prop} [Decidable p] {d : Nat} (hv : f.get d = some (.bool (decide p))) (H1 : p → GD P C n ops sS hS ds m l k ((d, .bool true) :: f) s h) (H2 : ¬ p → GD P C n ops sS hS ds m l k ((d, .bool false) :: f) s h) : GD P C n ops sS hS ds m l k f s h := by
  have key : ∀ b : Bool, decide p = b → GD P C n ops sS hS ds m l k ((d, .bool b) :: f) s h → GD P C n ops sS hS ds m l k f s h := fun b hb H a w h1 h2 h3 h4 => by
    refine H a w h1 (fun i v e => ?_) h3 h4
    simp only [Fr.get] at e
    cases hbd : Nat.beq i d with
    | true => rw [hbd] at e; simp at e; subst e; rw [Nat.eq_of_beq_eq_true hbd]; exact h2 d _ (by rw [hv, hb])
    | false => rw [hbd] at e; exact h2 i v e
  by_cases hp : p
  · exact key true (by simp [hp]) (H1 hp)
  · exact key false (by simp [hp]) (H2 hp)
end
end Go.Proofs.Ytnndjobhcncanaa
