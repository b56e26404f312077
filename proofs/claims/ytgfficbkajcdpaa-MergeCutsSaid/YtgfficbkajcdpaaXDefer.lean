/- Calls that may panic, deferred calls, recover, results that lie in cells. -/
import Derived.Test.YtgfficbkajcdpaaXRows
import Derived.WideLaws
namespace Go.Proofs.Ytgfficbkajcdpaa.X
open Go

/-! ### 1. Results in cells -/
section
variable {P : Program} {f : FuncId} {N : Nat} {k : List Item} {E : Env} {D : List Deferred} {w : World} {R : Out → World → Prop}
theorem lv1 {T : TypeId} {b i : Nat} {cs : List Value} {e : TypeId} {v : Value} (hT : ∀ w, (isAgg T).run P w = .ok false w) (hB : Blk w b cs e) (hv : cs[i]? = some v) : (loadVar T ⟨b, i, none⟩).run P w = .ok v w := by
  have hc : w.cell? ⟨b, i, none⟩ = some v := by rw [hB.cell]; exact hv
  simp [loadVar, hT, hc]
theorem lvN {T : TypeId} {b n : Nat} {cs : List Value} {e : TypeId} (hT : ∀ w, (isAgg T).run P w = .ok true w) (hs : ∀ w, (sizeOf T).run P w = .ok n w) (hB : Blk w b cs e) (hl : cs.length = n) : (loadVar T ⟨b, 0, none⟩).run P w = .ok (.agg cs.toArray) w := by
  subst hl
  have := run_loadCells_list (P := P) w ⟨b, 0, none⟩ cs (fun j u hu => by rw [add_mk, hB.cell, Nat.zero_add]; exact hu)
  simp [loadVar, hT, hs, this]
/-- What a result's row reads. -/
def ResOk (P : Program) (E : Env) (w : World) : ResultVar → Value → Prop
  | .tmp t, v => E.at_ t = v
  | .cell a T, v => ∃ ad, E.at_ a = .pointer (some ad) ∧ (loadVar T ad).run P w = .ok v w
theorem ResOk.cell {a T : Nat} {b : Nat} {v : Value} (h : E.ev (.tmp a) = .pointer (some ⟨b, 0, none⟩)) (hl : (loadVar T ⟨b, 0, none⟩).run P w = .ok v w) : ResOk P E w (.cell a T) v := ⟨_, h, hl⟩
def resSem (tmps : Array Value) : ResultVar → Sem Value
  | .tmp t => pure (tmps.getD t undef)
  | .cell a T => do loadVar T (← asAddr (tmps.getD a undef))
theorem ResOk.run {tmps : Array Value} (ht : Rep N E tmps) {r : ResultVar} {v : Value} (h : ResOk P E w r v) : (resSem tmps r).run P w = .ok v w := by
  cases r with
  | tmp t =>
    have h : E.at_ t = v := h
    simp [resSem, ht.at_ t, h]
  | cell a T =>
    obtain ⟨ad, h1, h2⟩ := h
    have h3 := (ht.at_ a).trans h1
    simp [resSem, h3, asAddr, h2]
theorem results_sem (fn : Func) (tmps : Array Value) : results fn tmps = (do let vs ← fn.results.mapM (resSem tmps); pure (if h : vs.size = 1 then vs[0] else .tuple vs)) := by
  unfold results
  congr
theorem unwR1 {fn : Func} {r1 : ResultVar} {v1 : Value} (hf : P.funcs[f]? = some fn) (hr : fn.results = #[r1]) (h1 : ResOk P E w r1 v1) (h : R (.ret v1) w) : Unw P f N .returning E [] w R :=
  unw_ret hf (fun tmps ht => by
    rw [results_sem, hr]
    simp [h1.run ht]) h
theorem unwR3 {fn : Func} {r1 r2 r3 : ResultVar} {v1 v2 v3 : Value} (hf : P.funcs[f]? = some fn) (hr : fn.results = #[r1, r2, r3]) (h1 : ResOk P E w r1 v1) (h2 : ResOk P E w r2 v2) (h3 : ResOk P E w r3 v3) (h : R (.ret (.tuple #[v1, v2, v3])) w) : Unw P f N .returning E [] w R :=
  unw_ret hf (fun tmps ht => by
    rw [results_sem, hr]
    simp [h1.run ht, h2.run ht, h3.run ht]) h

/-! ### 2. A call that may panic -/
theorem Ext.andThen {T U : Nat → Prop} {a b c : World} (h : Ext T a b) (h' : Ext U b c) (hU : ∀ k, k < a.heap.size → U k → T k) : Ext T a c := Ext.trans h h' (fun _ _ x => x) hU
/-- The call hands a value back where 'ok' says so; else it panics with one panic, x. -/
def PRet {β : Type} (P : Program) (f : FuncId) (args : Array Value) (w : World) (x : Value) (ok : Option β) (Q : β → Value → World → Prop) (B : World → Prop) : Prop :=
  Call P f args w fun o w' => match ok with
    | some b => ∃ v, o = .ret v ∧ Q b v w'
    | none => o = .pan [{ v := x, recovered := false }] ∧ B w'
theorem PRet.of_ret {β : Type} {args : Array Value} {x : Value} {b : β} {Q : β → Value → World → Prop} {B : World → Prop} (h : Ret P f args w fun v w' => Q b v w') : PRet P f args w x (some b) Q B :=
  Call.mono h fun o w' => by cases o with
    | ret v => exact fun q => ⟨v, rfl, q⟩
    | pan _ => exact fun q => q.elim
end
section
variable {P : Program} {f : FuncId} {N : Nat} {k : List Item} {E : Env} {D : List Deferred} {w : World} {R : Out → World → Prop} {ops : Array Oper} {l : List Oper} {dst : Option Tmp} {ty : TypeId} {pos : String} {aft : Array Edge} {g : Option (Nat × Bool)}
/-- 'f(..)', f a function by its name, that may panic. -/
theorem opPR {β : Type} {G : FuncId} {xs : List Operand} {tys : Array TypeId} {vs : List Value} {x : Value} {ok : Option β} {Q : β → Value → World → Prop} {B : World → Prop} (hc : PRet P G vs.toArray w x ok Q B) (hw : Wanted N E ops g) (hd : dstOk N dst = true) (hG : ∀ args w, (callFunc G args).run P w = .ok (.enter G args) w) (hv : xs.map E.ev = vs)
    (h1 : ∀ b, ok = some b → ∀ v w', Q b v w' → Ops P f N none ops l k (E.put dst v) D w' R) (h0 : ok = none → ∀ w', B w' → Unw P f N (.panicking [{ v := x, recovered := false }]) E D w' R) :
    Ops P f N none ops (⟨dst, .call ⟨.value (.func G), xs.toArray, tys⟩, ty, pos, aft, g⟩ :: l) k E D w R := by
  refine opCallO (G := G) (args := vs.toArray) hc hw hd rfl ?_ ?_
  · simp [execOp, resolve, Env.ev, Deferred.ofValue, invoke, hG, ← hv]
  · intro z w' hz
    cases hok : ok with
    | none =>
      rw [hok] at hz
      obtain ⟨rfl, hb⟩ := hz
      exact h0 hok w' hb
    | some b =>
      rw [hok] at hz
      obtain ⟨v, rfl, hq⟩ := hz
      exact h1 b hok v w' hq
/-- 'x(..)', x a function value, that may panic. -/
theorem opPRV {β : Type} {G : FuncId} {x' : Operand} {cap : List Value} {xs : List Operand} {tys : Array TypeId} {vs : List Value} {x : Value} {ok : Option β} {Q : β → Value → World → Prop} {B : World → Prop} (hx : E.ev x' = .func (.func G) #[] cap.toArray) (hc : PRet P G (vs ++ cap).toArray w x ok Q B) (hw : Wanted N E ops g) (hd : dstOk N dst = true) (hG : ∀ args w, (callFunc G args).run P w = .ok (.enter G args) w) (hv : xs.map E.ev = vs)
    (h1 : ∀ b, ok = some b → ∀ v w', Q b v w' → Ops P f N none ops l k (E.put dst v) D w' R) (h0 : ok = none → ∀ w', B w' → Unw P f N (.panicking [{ v := x, recovered := false }]) E D w' R) :
    Ops P f N none ops (⟨dst, .call ⟨.value x', xs.toArray, tys⟩, ty, pos, aft, g⟩ :: l) k E D w R := by
  refine opCallO (G := G) (args := (vs ++ cap).toArray) hc hw hd rfl ?_ ?_
  · simp [execOp, resolve, hx, Deferred.ofValue, invoke, hG, ← hv]
  · intro z w' hz
    cases hok : ok with
    | none =>
      rw [hok] at hz
      obtain ⟨rfl, hb⟩ := hz
      exact h0 hok w' hb
    | some b =>
      rw [hok] at hz
      obtain ⟨v, rfl, hq⟩ := hz
      exact h1 b hok v w' hq

/-! ### 3. Deferred calls -/
/-- 'defer x(..)'. -/
theorem opDefer {x : Operand} {G : FuncId} {cap : Array Value} {xs : List Operand} {vs : List Value} {tys : Array TypeId} (hw : Wanted N E ops g) (hx : E.ev x = .func (.func G) #[] cap) (hv : xs.map E.ev = vs) (h : Ops P f N none ops l k E (⟨.fn (.func G) cap, vs.toArray⟩ :: D) w R) :
    Ops P f N none ops (⟨none, .defer ⟨.value x, xs.toArray, tys⟩, ty, pos, aft, g⟩ :: l) k E D w R := by
  intro idx hi
  cases idx with
  | nil => simp at hi
  | cons i rest =>
    simp only [List.map_cons, List.cons.injEq] at hi
    obtain ⟨o', w', r, s⟩ := h rest hi.2
    refine ⟨o', w', r, fun kind cs tmps hcs ht => ?_⟩
    obtain ⟨m, s2, hl⟩ := s kind cs tmps hcs ht
    refine ⟨m, .head (step_lone_go ?_) s2, hl⟩
    have hwt := hw tmps ht ⟨none, .defer ⟨.value x, xs.toArray, tys⟩, ty, pos, aft, g⟩ rfl
    have he : (Fm f none kind tmps (.inRegion ops (i :: rest) :: k) D .run).eval = E.ev := by rw [frame_eval, ht.eval]
    simp only [stepG, stepG.exec, hi.1, Option.map_some, Option.getD_some, hwt, if_true, stepG.oper, Frame.oper?]
    simp only [execOp, resolve, he, hx, List.map_toArray, hv]
    simp [stepG.apply, Deferred.ofValue, Frame.finish, hi.1]

/-- A DEFERRED CALL, made by a frame in this mode: what it leaves that mode as. -/
def DCall (P : Program) (f : FuncId) (args : Array Value) (w : World) (mode : FrameMode) (R : FrameMode → World → Prop) : Prop :=
  ∃ mode' w', R mode' w' ∧ ∀ (c : Frame) cs, c.mode = mode → ∃ fr v, Steps P (lone (Frame.enter P f args .deferred) (c :: cs) w) (lone fr ({ c with mode := mode' } :: cs) w') ∧ Left P f .deferred fr w' (.ret v)
theorem DCall.of_ret {args : Array Value} {R' : Value → World → Prop} {mode : FrameMode} (h : Ret P f args w R') : DCall P f args w mode fun m w' => m = mode ∧ ∃ v, R' v w' := by
  obtain ⟨v, w', hr, hs⟩ := h.call
  refine ⟨mode, w', ⟨rfl, v, hr⟩, fun c cs hc => ?_⟩
  obtain ⟨fr, s, hl⟩ := hs .deferred (c :: cs)
  subst hc
  exact ⟨fr, v, s, hl⟩
/-- What 'recover' tells in a deferred call, and what it leaves. -/
def recOf : FrameMode → Value × FrameMode
  | .panicking ({ v, recovered := false, goexit := false } :: older) => (v, .panicking ({ v, recovered := true } :: older))
  | m => (.nilIface, m)
theorem tryRec (fr c : Frame) (cs : List Frame) (h : fr.kind = .deferred) : (tryRecover fr (c :: cs)) = none ∧ recOf c.mode = (.nilIface, c.mode) ∨ ∃ v m, tryRecover fr (c :: cs) = some (v, { c with mode := m } :: cs) ∧ recOf c.mode = (v, m) := by
  obtain ⟨fn, tmps, todo, D, mode, kind, rd⟩ := c
  simp only [tryRecover, h]
  cases mode with
  | run => left; exact ⟨rfl, rfl⟩
  | returning => left; exact ⟨rfl, rfl⟩
  | panicking ch =>
    cases ch with
    | nil => left; exact ⟨rfl, rfl⟩
    | cons e older =>
      obtain ⟨v, r, ge⟩ := e
      cases r <;> cases ge
      · right; exact ⟨v, _, rfl, rfl⟩
      · left; exact ⟨rfl, rfl⟩
      · left; exact ⟨rfl, rfl⟩
      · left; exact ⟨rfl, rfl⟩
/-- A deferred function that begins with 'recover()'. -/
theorem DCall.rec {fn : Func} {c : Code} {N id : Nat} {d : Tmp} {args : List Value} {mode mode' : FrameMode} {v : Value} {R : FrameMode → World → Prop} (hf : P.funcs[f]? = some fn) (hb : fn.body = some (.seq (.region id #[⟨some d, .call ⟨.builtin .recover, #[], #[]⟩, ty, pos, aft, none⟩] false) c)) (hN : fn.ntmps = N) (hl : Nat.ble args.length N = true) (hd : Nat.blt d N = true)
    (hrec : recOf mode = (v, mode')) (h : Run P f N none [.code c] ((Env.enter args).put (some d) v) [] w fun z w' => match z with | .ret _ => R mode' w' | .pan _ => False) : DCall P f args.toArray w mode R := by
  obtain ⟨z, w', hr, hs⟩ := h
  cases z with
  | pan ch => exact hr.elim
  | ret u =>
    refine ⟨mode', w', hr, fun cl cs hcl => ?_⟩
    have hent : Frame.enter P f args.toArray .deferred = Fm f none .deferred (args.toArray ++ Array.replicate (N - args.toArray.size) undef) [.code (.seq (.region id #[⟨some d, .call ⟨.builtin .recover, #[], #[]⟩, ty, pos, aft, none⟩] false) c)] [] .run := by
      simp [Frame.enter, hf, hb, hN]
    have ht := (Rep.enter N args (Nat.le_of_ble_eq_true hl)).put d v (blt_lt hd)
    obtain ⟨m, s1, fr, rfl, hl'⟩ := hs .deferred ({ cl with mode := mode' } :: cs) _ (fun h => absurd rfl h) ht
    refine ⟨fr, u, ?_, hl'⟩
    rw [hent]
    generalize args.toArray ++ Array.replicate (N - args.toArray.size) undef = T at *
    have st1 : step P (lone (Fm f none .deferred T [.code (.seq (.region id #[⟨some d, .call ⟨.builtin .recover, #[], #[]⟩, ty, pos, aft, none⟩] false) c)] [] .run) (cl :: cs) w) = .next (lone (Fm f none .deferred T [.code (.region id #[⟨some d, .call ⟨.builtin .recover, #[], #[]⟩, ty, pos, aft, none⟩] false), .code c] [] .run) (cl :: cs) w) :=
      step_lone_go (by simp [stepG, stepG.exec])
    have st2 : step P (lone (Fm f none .deferred T [.code (.region id #[⟨some d, .call ⟨.builtin .recover, #[], #[]⟩, ty, pos, aft, none⟩] false), .code c] [] .run) (cl :: cs) w) = .next (lone (Fm f none .deferred T [.inRegion #[⟨some d, .call ⟨.builtin .recover, #[], #[]⟩, ty, pos, aft, none⟩] [0], .code c] [] .run) (cl :: cs) w) :=
      step_lone_go (by simp [stepG, stepG.exec, List.range_succ])
    have st3 : step P (lone (Fm f none .deferred T [.inRegion #[⟨some d, .call ⟨.builtin .recover, #[], #[]⟩, ty, pos, aft, none⟩] [0], .code c] [] .run) (cl :: cs) w) = .next (lone (Fm f none .deferred (T.setIfInBounds d v) [.inRegion #[⟨some d, .call ⟨.builtin .recover, #[], #[]⟩, ty, pos, aft, none⟩] [], .code c] [] .run) ({ cl with mode := mode' } :: cs) w) := by
      refine step_lone_go ?_
      rcases tryRec (Fm f none .deferred T [.inRegion #[⟨some d, .call ⟨.builtin .recover, #[], #[]⟩, ty, pos, aft, none⟩] [0], .code c] [] .run) cl cs rfl with ⟨h1, h2⟩ | ⟨v2, m2, h1, h2⟩
      · rw [hcl, hrec] at h2
        cases h2
        simp [stepG, stepG.exec, stepG.oper, Frame.oper?, Region.wanted, stepG.apply, execOp, resolve, invoke, builtin, h1, Frame.finish, ← hcl]
      · rw [hcl, hrec] at h2
        cases h2
        simp [stepG, stepG.exec, stepG.oper, Frame.oper?, Region.wanted, stepG.apply, execOp, resolve, invoke, builtin, h1, Frame.finish]
    have st4 : step P (lone (Fm f none .deferred (T.setIfInBounds d v) [.inRegion #[⟨some d, .call ⟨.builtin .recover, #[], #[]⟩, ty, pos, aft, none⟩] [], .code c] [] .run) ({ cl with mode := mode' } :: cs) w) = .next (lone (Fm f none .deferred (T.setIfInBounds d v) [.code c] [] .run) ({ cl with mode := mode' } :: cs) w) :=
      step_lone_go (by simp [stepG, stepG.exec])
    exact .head st1 (.head st2 (.head st3 (.head st4 s1)))
/-- What a frame's mode is when a deferred call of its has come to its end. -/
def after : FrameMode → FrameMode
  | .panicking ({ recovered := true, .. } :: older) => match older.dropWhile (!·.goexit) with
    | [] => .returning
    | rest => .panicking rest
  | m => m
theorem unw_defer {G : FuncId} {cap xs : List Value} {mode : FrameMode} {ds : List Deferred} {R' : FrameMode → World → Prop} (hG : ∀ args w, (callFunc G args).run P w = .ok (.enter G args) w) (hm : mode ≠ .run) (hc : DCall P G (xs ++ cap).toArray w mode R') (h : ∀ m w', R' m w' → Unw P f N (after m) E ds w' R) :
    Unw P f N mode E (⟨.fn (.func G) cap.toArray, xs.toArray⟩ :: ds) w R := by
  obtain ⟨m1, w1, hr, hs⟩ := hc
  obtain ⟨o, w', r, s⟩ := h m1 w1 hr
  refine ⟨o, w', r, fun kind cs tmps todo ht => ?_⟩
  obtain ⟨fr1, v, s1, hm1, hd1, hk1, hf1, fn1, hfn1, hres⟩ := hs (Fm f none kind tmps todo ds mode) cs rfl
  obtain ⟨fr, s2, hl⟩ := s kind cs tmps todo ht
  refine ⟨fr, .head (step_lone_go ?_) (s1.trans (.head (step_lone_go ?_) s2)), hl⟩
  · cases mode with
    | run => exact absurd rfl hm
    | returning => simp [stepG, unwind, callDeferred, invoke, hG, List.append_toArray]
    | panicking ch => simp [stepG, unwind, callDeferred, invoke, hG, List.append_toArray]
  · simp [stepG, unwind, doReturn, hm1, hd1, hk1, hf1, hfn1, hres, after]
    cases m1 with
    | run => rfl
    | returning => rfl
    | panicking ch =>
      cases ch with
      | nil => rfl
      | cons e older =>
        obtain ⟨ev, rc, ge⟩ := e
        cases rc
        · rfl
        · simp only []
          split <;> simp_all
/-! ### 4. Interface values -/
section
variable {P : Program} {ρ : Operand → Value} {w : World} {dst : Option Tmp} {ty : TypeId} {pos : String} {aft : Array Edge} {g : Option (Nat × Bool)}
theorem meths {T : TypeId} {ms : Array (String × TypeId)} (h : P.underlying T = some (.interface ms)) : P.underlying T = some (.interface (P.methodsAt T)) := by
  have : P.methodsAt T = ms := by simp [Program.methodsAt, h]
  rw [this]; exact h
theorem eqIf0 {T T' : TypeId} {x : Operand} {ms : Array (String × TypeId)} (hT : P.underlying T = some (.interface ms)) (hx : ρ x = .nilIface) (hy : ρ (.const .nilIface) = .nilIface) : Does P ⟨dst, .binOp .eql T x (.const .nilIface) T', ty, pos, aft, g⟩ ρ w (.bool true) w :=
  does_run rfl (by
    have h1 := run_equal_nil_nil (P := P) w T (meths hT)
    simp only [execOp, hx, hy, binOp, eqGuard]
    simp [h1])
theorem eqIf1 {T T' U : TypeId} {x : Operand} {v : Value} {ms : Array (String × TypeId)} (hT : P.underlying T = some (.interface ms)) (hx : ρ x = .iface U v) (hy : ρ (.const .nilIface) = .nilIface) : Does P ⟨dst, .binOp .eql T x (.const .nilIface) T', ty, pos, aft, g⟩ ρ w (.bool false) w :=
  does_run rfl (by
    have h1 := run_equal_held_nil (P := P) w T U v (meths hT)
    simp only [execOp, hx, hy, binOp, eqGuard]
    simp [h1])
theorem tAssert {T U : TypeId} {x : Operand} {v : Value} {d : TypeDesc} (hT : P.underlying T = some d) (hd : (match d with | .interface _ => false | _ => true) = true) (hx : ρ x = .iface T v) : Does P ⟨dst, .typeAssert x U T true, ty, pos, aft, g⟩ ρ w (.tuple #[v, .bool true]) w :=
  does_run rfl (by
    cases d <;> first | (cases hd; done) | simp [execOp, hx, Instr.typeAssert, run_underlying hT])
end
end
end Go.Proofs.Ytgfficbkajcdpaa.X
