/- The readers: what stops them, recovered. No statement of the seat is proved here. -/
import Derived.Test.YtnndjobhcncanaaR2
namespace Go.Proofs.Ytnndjobhcncanaa
open Go.RowKit
section
variable {P : Program} {C : Ctx} {n : Nat} {f : Fr} {s : Store} {h : List Ent}
/-- A result that lies in memory. -/
theorem res1c {fn : Func} {t : Tmp} {ty : TypeId} {g : Nat} {v : Value} {e : TypeId} {fr : Nat × Nat} {d : TypeDesc} [ut : UT P ty d] (hr : fn.results = #[.cell t ty]) (hv : f.get t = some (.pointer (some ⟨g, 0, none⟩))) (hd : isAggD d = false) (hm : Ent.blk g (.cells [v].toArray e fr) ∈ h) : resOf P f h fn v := fun a w s hf m => by
  have h1 := hf t _ hv
  have h2 : w.cell? ⟨g, 0, none⟩ = some v := by rw [cell_blk (m.blk hm)]; rfl
  simp [results, hr, Array.getD_eq_getD_getElem?, h1, asAddr, loadVar, run_isAgg (P := P) (w := w) (t := ty), hd, h2]
theorem CallsD.mono_ {fid : FuncId} {args : Array Value} {u : FrameMode} {w : World} {R R' : Ending → FrameMode → World → Prop} (H : CallsD P fid args u w R) (hm : ∀ e u' w', R e u' w' → R' e u' w') : CallsD P fid args u w R' := fun c cs hc => by
  obtain ⟨e, u', w', fr, h1, h2⟩ := H c cs hc
  exact ⟨e, u', w', fr, hm _ _ _ h1, h2⟩
theorem Pick.mid {x : Ent} : ∀ (l t : List Ent), Pick x (l ++ x :: t) (l ++ t)
  | [], _ => .head
  | _ :: l, t => .tail (Pick.mid l t)
theorem Split.pre : ∀ (l hh : List Ent), Split hh (l ++ hh) l
  | l, [] => by rw [List.append_nil]; exact .nil
  | l, _ :: t => .cons (Pick.mid l t) (Split.pre l t)
theorem Split.fst : ∀ (hh l : List Ent), Split hh (hh ++ l) l
  | [], _ => .nil
  | _ :: t, l => .cons .head (Split.fst t l)
/-- One deferred call, and behind it the function has returned. -/
theorem GR.deferred {fid : FuncId} {cap args as_ : Array Value} {u : FrameMode} {s2 : Store} {h1 h1' r h3 q : List Ent} {v : Value} [en : Enters P fid] (hD : C.D = [⟨.fn (.func fid) cap, as_⟩]) (hfc : P.funcs[C.fid]? = some C.fn) (hargs : as_ ++ cap = args) (hu : u ≠ .run) (hperm : h.Perm (h1 ++ r))
    (hc : ∀ w, Mem s h1 w → CallsD P fid args u w (fun e u' w' => (∃ v, e = .returned v) ∧ settle u' = .returning ∧ Cur w s h1 s2 h1' w')) (hr : resOf P f (h1' ++ r) C.fn v) (hs : Split h3 (h1' ++ r) q) (hp : C.post (.returned v) s2 h3) : GR P C n u f s h := by
  refine ⟨hfc, fun a w e1 e2 e3 e4 => ?_⟩
  rw [e3, hD]
  have e5 := e4.perm hperm
  refine ⟨hu, .func fid, cap, fid, args, rfl, ?_, ?_⟩
  · show (callFunc fid (as_ ++ cap)).run P w = _
    rw [hargs]
    exact en.out args w
  · intro c cs hm
    obtain ⟨e, u', w', fr, ⟨⟨v', rfl⟩, hs', hcur⟩, hcm, hk, hg⟩ := hc w (e5.mem.sub (List.sublist_append_left _ _) (Store.le.refl _)) c cs hm
    refine ⟨.returned v', u', w', fr, ?_, hcm, hk, hg⟩
    show Leaves P C.fn a.tmps C.R [] (settle u') w'
    rw [hs']
    have hcur2 := Cur.step e5 hcur
    exact ⟨v, hr a w' s2 e2 hcur2.mem, s2, h3, hp, hcur2.hsub hs⟩
/-- The end of a function whose result lies in memory. -/
theorem G.retS {fid : FuncId} {fn : Func} {post : Ending → Store → List Ent → Prop} {v : Value} {h' r : List Ent} {k : List Item} (ok : Ctx.Is P C fid fn post) (hr : resOf P f h fn v) (hs : Split h' h r) (hp : post (.returned v) s h') : G P C n (.code .ret :: k) f s h := by
  refine G.leave ⟨by rw [ok.fid, ok.fn]; exact ok.fc, fun a w h1 h2 h3 h4 => ?_⟩
  rw [h3, ok.D]
  exact ⟨v, by rw [ok.fn]; exact hr a w s h2 h4.mem, s, h', by rw [ok.post]; exact hp, h4.hsub hs⟩
end
theorem wpOpsS_cons {P : Program} {ops : Array Oper} {Q : Exit → Act → List Frame → World → Prop} {i : Nat} {is : List Nat} {o : Oper} {a : Act} {cs : List Frame} {w : World} {v : Value} (ho : ops[i]? = some o) (hg : o.guard = none) (hr : (execOp a.eval o).run P w = .ok (.value v) w) (H : wpOpsS P ops Q is (a.put o.dst v) cs w) : wpOpsS P ops Q (i :: is) a cs w := by
  simp only [wpOpsS, ho, hr]
  rw [if_pos (by simp [Region.wanted, hg])]
  exact H
theorem wpOpsS_rec {P : Program} {ops : Array Oper} {Q : Exit → Act → List Frame → World → Prop} {i : Nat} {is : List Nat} {o : Oper} {a : Act} {cs cs' : List Frame} {w : World} {v : Value} {ts : Array TypeId} (ho : ops[i]? = some o) (hg : o.guard = none) (hop : o.op = .call { callee := .builtin .recover, args := #[], argTypes := ts }) (hr : recoverD cs = some (v, cs')) (H : wpOpsS P ops Q is (a.put o.dst v) cs' w) : wpOpsS P ops Q (i :: is) a cs w := by
  have hx : (execOp a.eval o).run P w = .ok .recover w := by simp [execOp, hop, resolve, invoke, builtin]
  simp only [wpOpsS, ho, hx, hr]
  rw [if_pos (by simp [Region.wanted, hg])]
  exact H
theorem wpOpsS_rec0 {P : Program} {ops : Array Oper} {Q : Exit → Act → List Frame → World → Prop} {i : Nat} {is : List Nat} {o : Oper} {a : Act} {cs : List Frame} {w : World} {ts : Array TypeId} (ho : ops[i]? = some o) (hg : o.guard = none) (hop : o.op = .call { callee := .builtin .recover, args := #[], argTypes := ts }) (hr : recoverD cs = none) (H : wpOpsS P ops Q is (a.put o.dst .nilIface) cs w) : wpOpsS P ops Q (i :: is) a cs w := by
  have hx : (execOp a.eval o).run P w = .ok .recover w := by simp [execOp, hop, resolve, invoke, builtin]
  simp only [wpOpsS, ho, hx, hr]
  rw [if_pos (by simp [Region.wanted, hg])]
  exact H
theorem run_equalIn_if {P : Program} {d : Nat} {t u : TypeId} {v : Value} {w : World} {ms : Array (String × TypeId)} [ut : UT P t (.interface ms)] : (Op.equalIn (d + 1) t (.iface u v) .nilIface).run P w = .ok false w := by
  simp only [Op.equalIn, Sem.run_bind, run_underlying ut.out, Result.andThen_ok, Sem.run_pure]
theorem run_equalIn_nn {P : Program} {d : Nat} {t : TypeId} {w : World} {ms : Array (String × TypeId)} [ut : UT P t (.interface ms)] : (Op.equalIn (d + 1) t .nilIface .nilIface).run P w = .ok true w := by
  simp only [Op.equalIn, Sem.run_bind, run_underlying ut.out, Result.andThen_ok, Sem.run_pure]
theorem PEv.neIfT {P : Program} {f : Fr} {s : Store} {h : List Ent} {o : Oper} {t t' u : TypeId} {x y : Operand} {v : Value} {ms : Array (String × TypeId)} [ut : UT P t (.interface ms)] (ho : o.op = .binOp .neq t x y t') (hx : f.val x = some (.iface u v)) (hy : f.val y = some .nilIface) : PEv P f s h o (.bool true) := fun a w h1 _ => by
  simp only [execOp, ho, h1.eval hx, h1.eval hy, eqGuard, binOp, Op.equal, Op.maxDepth, Sem.run_bind, run_equalIn_if (P := P) (d := 9999) (t := t), Bool.not_true, Bool.not_false, Bool.false_eq_true, if_false, Sem.run_pure, Result.andThen_ok]
theorem PEv.neIfF {P : Program} {f : Fr} {s : Store} {h : List Ent} {o : Oper} {t t' : TypeId} {x : Operand} {ms : Array (String × TypeId)} [ut : UT P t (.interface ms)] (ho : o.op = .binOp .neq t x (.const .nilIface) t') (hx : f.val x = some .nilIface) : PEv P f s h o (.bool false) := fun a w h1 _ => by
  have hn : a.eval (.const .nilIface) = .nilIface := rfl
  simp only [execOp, ho, h1.eval hx, hn, eqGuard, binOp, Op.equal, Op.maxDepth, Sem.run_bind, run_equalIn_nn (P := P) (d := 9999) (t := t), Sem.run_pure, Result.andThen_ok]
  simp
instance : UT Try.prog 20 (.interface #[]) := ⟨Try.underlying20⟩
theorem results0 {P : Program} {fn : Func} (hr : fn.results = #[]) (tmps : Array Value) (w : World) : (results fn tmps).run P w = .ok (.tuple #[]) w := by simp [results, hr]
theorem GX.use {P : Program} {Q : Exit → Act → World → Prop} {n : Nat} {f : Fr} {s : Store} {h : List Ent} {w0 : World} {s0 : Store} {h0 : List Ent} {l : List Oper} {a : Act} {w : World} (H : GX P Q w0 s0 h0 n l.toArray l f s h) (h1 : a.tmps.size = n) (h2 : f.ok a) (h3 : a.defers = []) (h4 : Cur w0 s0 h0 s h w) : wpOps P l.toArray Q (List.range l.toArray.size) a w := by
  refine H _ ?_ a w h1 h2 h3 h4
  apply List.ext_getElem?
  intro i
  simp only [List.size_toArray, List.getElem?_map]
  by_cases hi : i < l.length
  · simp [List.getElem?_range hi, List.getElem?_eq_getElem hi]
  · simp [List.getElem?_eq_none (show l.length ≤ i by omega), List.getElem?_eq_none (show (List.range l.length).length ≤ i by simp; omega)]
theorem fr_args (args : List Value) (n : Nat) : Fr.ok (argFr 0 args) ({ tmps := args.toArray ++ Array.replicate (n - args.toArray.size) undef, defers := [] } : Act) := by
  intro i v e
  have ⟨_, h2⟩ := argFr_get args 0 i v e
  simp at h2
  have hlt : i < args.length := (List.getElem?_eq_some_iff.1 h2).1
  rw [Array.getElem?_append_left (by simpa using hlt)]
  simpa using h2
theorem size_args (args : List Value) (n : Nat) (ha : args.length ≤ n) : ({ tmps := args.toArray ++ Array.replicate (n - args.toArray.size) undef, defers := [] } : Act).tmps.size = n := by
  simp
  omega
theorem try1_ret (args : List Value) (ha : args.length ≤ 12) (w : World) : CallsD Try.prog 71 args.toArray .returning w (fun e u' w' => e = .returned (.tuple #[]) ∧ u' = .returning ∧ w' = w) := by
  refine callsD_of_wpS Try.func71 rfl (fun c0 cs hm => ?_)
  have f0 := fr_args args 12
  have e0 := size_args args 12 ha
  have f1 : Fr.ok ((3, .nilIface) :: argFr 0 args) _ := Fr.ok_put (v := .nilIface) f0 (show 3 < _ by rw [e0]; decide)
  have e1 := (act_size (d := some 3) (v := .nilIface)).trans e0
  have f2 : Fr.ok ((4, .bool false) :: (3, .nilIface) :: argFr 0 args) _ := Fr.ok_put (v := .bool false) f1 (show 4 < _ by rw [e1]; decide)
  have m0 : Mem (fun _ => none) [] w := ⟨fun _ _ h => by simp at h, fun _ h => by simp at h, by simp [keys], fun _ h => by simp [keys] at h⟩
  refine wpS_seq (wpS_region ?_)
  refine wpOpsS_rec0 rfl rfl rfl (by simp [recoverD, hm]) ?_
  refine wpOpsS_cons rfl rfl (PEv.neIfF (f := (3, .nilIface) :: argFr 0 args) (s := fun _ => none) (h := []) rfl rfl _ _ f1 m0) ?_
  refine wpS_cond (t := false) (Fr.ok.eval f2 rfl) ?_
  refine wpS_of_wp (wp_skip ?_)
  refine ⟨rfl, .returning, by rw [← hm], .tuple #[], ?_, rfl, rfl, rfl⟩
  exact results0 rfl _ _
theorem try1_panic (ga gr gn g : Nat) (z : ByteArray) (i0 j : Nat) (x : Int) (s : Store) (w : World) (m : Mem s [.blk ga (.cells [.int .i64 i0].toArray 3 (0, 0)), .blk gr (.cells [.pointer (some ⟨g, 0, none⟩)].toArray 75 (0, 0)), .blk gn (.cells [.int .i64 x].toArray 3 (0, 0)), rdE g z j false] w) :
    CallsD Try.prog 71 [.pointer (some ⟨ga, 0, none⟩), .pointer (some ⟨gr, 0, none⟩), .pointer (some ⟨gn, 0, none⟩)].toArray (.panicking chR) w
      (fun e u' w' => (∃ v, e = .returned v) ∧ settle u' = .returning ∧ Cur w s [.blk ga (.cells [.int .i64 i0].toArray 3 (0, 0)), .blk gr (.cells [.pointer (some ⟨g, 0, none⟩)].toArray 75 (0, 0)), .blk gn (.cells [.int .i64 x].toArray 3 (0, 0)), rdE g z j false] s [.blk gn (.cells [.int .i64 0].toArray 3 (0, 0)), rdE g z i0 true, .blk ga (.cells [.int .i64 i0].toArray 3 (0, 0)), .blk gr (.cells [.pointer (some ⟨g, 0, none⟩)].toArray 75 (0, 0))] w') := by
  refine callsD_of_wpS Try.func71 rfl (fun c0 cs hm => ?_)
  generalize ha : [Value.pointer (some ⟨ga, 0, none⟩), .pointer (some ⟨gr, 0, none⟩), .pointer (some ⟨gn, 0, none⟩)] = args
  have hal : args.length ≤ 12 := by subst ha; exact Nat.le_of_ble_eq_true rfl
  have f0 := fr_args args 12
  have e0 := size_args args 12 hal
  have f1 : Fr.ok ((3, .iface 27 (.int .i64 70)) :: argFr 0 args) _ := Fr.ok_put (v := .iface 27 (.int .i64 70)) f0 (show 3 < _ by rw [e0]; decide)
  have e1 := (act_size (d := some 3) (v := .iface 27 (.int .i64 70))).trans e0
  have f2 : Fr.ok ((4, .bool true) :: (3, .iface 27 (.int .i64 70)) :: argFr 0 args) _ := Fr.ok_put (v := .bool true) f1 (show 4 < _ by rw [e1]; decide)
  have e2 := (act_size (d := some 4) (v := .bool true)).trans e1
  have m0 : Mem (fun _ => none) [] w := ⟨fun _ _ h => by simp at h, fun _ h => by simp at h, by simp [keys], fun _ h => by simp [keys] at h⟩
  refine wpS_seq (wpS_region ?_)
  refine wpOpsS_rec (v := .iface 27 (.int .i64 70)) (cs' := { c0 with mode := .panicking [{ v := .iface 27 (.int .i64 70), recovered := true }] } :: cs) rfl rfl rfl (by simp [recoverD, hm]) ?_
  refine wpOpsS_cons rfl rfl (PEv.neIfT (f := (3, .iface 27 (.int .i64 70)) :: argFr 0 args) (s := fun _ => none) (h := []) rfl rfl rfl _ _ f1 m0) ?_
  refine wpS_cond (t := true) (Fr.ok.eval f2 rfl) ?_
  subst ha
  refine wpS_of_wp (wp_region ?_)
  refine GX.use ?_ e2 f2 rfl (Cur.start m)
  refine GX.p ?_
  refine GX.p ?_
  refine GX.p ?_
  refine GX.p ?_
  refine GX.p ?_
  refine GX.store ?_
  refine GX.p ?_
  refine GX.p ?_
  refine GX.store ?_
  refine GX.store ?_
  refine GX.nil fun a w' h1 h2 h3 => ?_
  refine ⟨h2, _, rfl, .tuple #[], ?_, ⟨_, rfl⟩, rfl, h3⟩
  exact results0 rfl _ _
end Go.Proofs.Ytnndjobhcncanaa
