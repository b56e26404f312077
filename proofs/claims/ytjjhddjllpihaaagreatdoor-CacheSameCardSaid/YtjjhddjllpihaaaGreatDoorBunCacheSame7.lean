/- Texts that the proof of CacheSame stands on, part 7. -/
import Derived.WideLaws
import Derived.Test.YtjjhddjllpihaaaGreatDoorBunCacheSame6
set_option maxHeartbeats 4000000
set_option maxRecDepth 100000
set_option linter.unusedSimpArgs false
set_option linter.unusedVariables false
namespace Go.Proofs.YtjjhddjllpihaaaGreatDoor.X
open Go
/-! ### 1. Results in cells -/
section
variable {P : Program} {f : FuncId} {N : Nat} {k : List Item} {E : Env} {D : List Deferred} {w : World} {R : Out → World → Prop}
theorem lv1 {T : TypeId} {b i : Nat} {cs : List Value} {e : TypeId} {v : Value} (hT : ∀ w, (isAgg T).run P w = .ok false w) (hB : Blk w b cs e) (hv : cs[i]? = some v) : (loadVar T ⟨b, i, none⟩).run P w = .ok v w := by
  have hc : w.cell? ⟨b, i, none⟩ = some v := by rw [hB.cell]; exact hv
  simp [loadVar, hT, hc]
theorem lvN {T : TypeId} {b n : Nat} {cs : List Value} {e : TypeId} (hT : ∀ w, (isAgg T).run P w = .ok true w) (hs : ∀ w, (sizeOf T).run P w = .ok n w) (hB : Blk w b cs e) (hl : cs.length = n) : (loadVar T ⟨b, 0, none⟩).run P w = .ok (.agg cs.toArray) w := by
  subst hl
  have := run_loadCells_list (P := P) w ⟨b, 0, none⟩ cs (fun j u hu => by rw [add_mk, hB.cell, Nat.zero_add]; exact hu)
  simp [loadVar, hT, hs, this]
def ResOk (P : Program) (E : Env) (w : World) : ResultVar → Value → Prop
  | .tmp t, v => E.at_ t = v
  | .cell a T, v => ∃ ad, E.at_ a = .pointer (some ad) ∧ (loadVar T ad).run P w = .ok v w
theorem ResOk.cell {a T : Nat} {b : Nat} {v : Value} (h : E.ev (.tmp a) = .pointer (some ⟨b, 0, none⟩)) (hl : (loadVar T ⟨b, 0, none⟩).run P w = .ok v w) : ResOk P E w (.cell a T) v := ⟨_, h, hl⟩
def resSem (tmps : Array Value) : ResultVar → Sem Value
  | .tmp t => pure (tmps.getD t undef)
  | .cell a T => do loadVar T (← asAddr (tmps.getD a undef))
theorem ResOk.run {tmps : Array Value} (ht : Rep N E tmps) {r : ResultVar} {v : Value} (h : ResOk P E w r v) : (resSem tmps r).run P w = .ok v w := by
  cases r with
  | tmp t =>
    have h : E.at_ t = v := h
    simp [resSem, ht.at_ t, h]
  | cell a T =>
    obtain ⟨ad, h1, h2⟩ := h
    have h3 := (ht.at_ a).trans h1
    simp [resSem, h3, asAddr, h2]
theorem results_sem (fn : Func) (tmps : Array Value) : results fn tmps = (do let vs ← fn.results.mapM (resSem tmps); pure (if h : vs.size = 1 then vs[0] else .tuple vs)) := by
  unfold results
  congr
theorem unwR1 {fn : Func} {r1 : ResultVar} {v1 : Value} (hf : P.funcs[f]? = some fn) (hr : fn.results = #[r1]) (h1 : ResOk P E w r1 v1) (h : R (.ret v1) w) : Unw P f N .returning E [] w R :=
  unw_ret hf (fun tmps ht => by
    rw [results_sem, hr]
    simp [h1.run ht]) h
theorem unwR3 {fn : Func} {r1 r2 r3 : ResultVar} {v1 v2 v3 : Value} (hf : P.funcs[f]? = some fn) (hr : fn.results = #[r1, r2, r3]) (h1 : ResOk P E w r1 v1) (h2 : ResOk P E w r2 v2) (h3 : ResOk P E w r3 v3) (h : R (.ret (.tuple #[v1, v2, v3])) w) : Unw P f N .returning E [] w R :=
  unw_ret hf (fun tmps ht => by
    rw [results_sem, hr]
    simp [h1.run ht, h2.run ht, h3.run ht]) h
/-! ### 2. A call that may panic -/
theorem Ext.andThen {T U : Nat → Prop} {a b c : World} (h : Ext T a b) (h' : Ext U b c) (hU : ∀ k, k < a.heap.size → U k → T k) : Ext T a c := Ext.trans h h' (fun _ _ x => x) hU
def PRet {β : Type} (P : Program) (f : FuncId) (args : Array Value) (w : World) (x : Value) (ok : Option β) (Q : β → Value → World → Prop) (B : World → Prop) : Prop :=
  Call P f args w fun o w' => match ok with
    | some b => ∃ v, o = .ret v ∧ Q b v w'
    | none => o = .pan [{ v := x, recovered := false }] ∧ B w'
theorem PRet.of_ret {β : Type} {args : Array Value} {x : Value} {b : β} {Q : β → Value → World → Prop} {B : World → Prop} (h : Ret P f args w fun v w' => Q b v w') : PRet P f args w x (some b) Q B :=
  Call.mono h fun o w' => by cases o with
    | ret v => exact fun q => ⟨v, rfl, q⟩
    | pan _ => exact fun q => q.elim
end
section
variable {P : Program} {f : FuncId} {N : Nat} {k : List Item} {E : Env} {D : List Deferred} {w : World} {R : Out → World → Prop} {ops : Array Oper} {l : List Oper} {dst : Option Tmp} {ty : TypeId} {pos : String} {aft : Array Edge} {g : Option (Nat × Bool)}
theorem opPR {β : Type} {G : FuncId} {xs : List Operand} {tys : Array TypeId} {vs : List Value} {x : Value} {ok : Option β} {Q : β → Value → World → Prop} {B : World → Prop} (hc : PRet P G vs.toArray w x ok Q B) (hw : Wanted N E ops g) (hd : dstOk N dst = true) (hG : ∀ args w, (callFunc G args).run P w = .ok (.enter G args) w) (hv : xs.map E.ev = vs)
    (h1 : ∀ b, ok = some b → ∀ v w', Q b v w' → Ops P f N none ops l k (E.put dst v) D w' R) (h0 : ok = none → ∀ w', B w' → Unw P f N (.panicking [{ v := x, recovered := false }]) E D w' R) :
    Ops P f N none ops (⟨dst, .call ⟨.value (.func G), xs.toArray, tys⟩, ty, pos, aft, g⟩ :: l) k E D w R := by
  refine opCallO (G := G) (args := vs.toArray) hc hw hd rfl ?_ ?_
  · simp [execOp, resolve, Env.ev, Deferred.ofValue, invoke, hG, ← hv]
  · intro z w' hz
    cases hok : ok with
    | none =>
      rw [hok] at hz
      obtain ⟨rfl, hb⟩ := hz
      exact h0 hok w' hb
    | some b =>
      rw [hok] at hz
      obtain ⟨v, rfl, hq⟩ := hz
      exact h1 b hok v w' hq
theorem opPRV {β : Type} {G : FuncId} {x' : Operand} {cap : List Value} {xs : List Operand} {tys : Array TypeId} {vs : List Value} {x : Value} {ok : Option β} {Q : β → Value → World → Prop} {B : World → Prop} (hx : E.ev x' = .func (.func G) #[] cap.toArray) (hc : PRet P G (vs ++ cap).toArray w x ok Q B) (hw : Wanted N E ops g) (hd : dstOk N dst = true) (hG : ∀ args w, (callFunc G args).run P w = .ok (.enter G args) w) (hv : xs.map E.ev = vs)
    (h1 : ∀ b, ok = some b → ∀ v w', Q b v w' → Ops P f N none ops l k (E.put dst v) D w' R) (h0 : ok = none → ∀ w', B w' → Unw P f N (.panicking [{ v := x, recovered := false }]) E D w' R) :
    Ops P f N none ops (⟨dst, .call ⟨.value x', xs.toArray, tys⟩, ty, pos, aft, g⟩ :: l) k E D w R := by
  refine opCallO (G := G) (args := (vs ++ cap).toArray) hc hw hd rfl ?_ ?_
  · simp [execOp, resolve, hx, Deferred.ofValue, invoke, hG, ← hv]
  · intro z w' hz
    cases hok : ok with
    | none =>
      rw [hok] at hz
      obtain ⟨rfl, hb⟩ := hz
      exact h0 hok w' hb
    | some b =>
      rw [hok] at hz
      obtain ⟨v, rfl, hq⟩ := hz
      exact h1 b hok v w' hq
/-! ### 3. Deferred calls -/
theorem opDefer {x : Operand} {G : FuncId} {cap : Array Value} {xs : List Operand} {vs : List Value} {tys : Array TypeId} (hw : Wanted N E ops g) (hx : E.ev x = .func (.func G) #[] cap) (hv : xs.map E.ev = vs) (h : Ops P f N none ops l k E (⟨.fn (.func G) cap, vs.toArray⟩ :: D) w R) :
    Ops P f N none ops (⟨none, .defer ⟨.value x, xs.toArray, tys⟩, ty, pos, aft, g⟩ :: l) k E D w R := by
  intro idx hi
  cases idx with
  | nil => simp at hi
  | cons i rest =>
    simp only [List.map_cons, List.cons.injEq] at hi
    intro kind cs tmps hcs ht
    obtain ⟨o', w', r, m, s2, hl⟩ := h rest hi.2 kind cs tmps hcs ht
    refine ⟨o', w', r, m, .head (step_lone_go ?_) s2, hl⟩
    have hwt := hw tmps ht ⟨none, .defer ⟨.value x, xs.toArray, tys⟩, ty, pos, aft, g⟩ rfl
    have he : (Fm f none kind tmps (.inRegion ops (i :: rest) :: k) D .run).eval = E.ev := by rw [frame_eval, ht.eval]
    simp only [stepG, stepG.exec, hi.1, Option.map_some, Option.getD_some, hwt, if_true, stepG.oper, Frame.oper?]
    simp only [execOp, resolve, he, hx, List.map_toArray, hv]
    simp [stepG.apply, Deferred.ofValue, Frame.finish, hi.1]
def DCall (P : Program) (f : FuncId) (args : Array Value) (w : World) (mode : FrameMode) (R : FrameMode → World → Prop) : Prop :=
  ∀ (c : Frame) cs, c.mode = mode → ∃ mode' w', R mode' w' ∧ ∃ fr v, Steps P (lone (Frame.enter P f args .deferred) (c :: cs) w) (lone fr ({ c with mode := mode' } :: cs) w') ∧ Left P f .deferred fr w' (.ret v)
theorem DCall.of_ret {args : Array Value} {R' : Value → World → Prop} {mode : FrameMode} (h : Ret P f args w R') : DCall P f args w mode fun m w' => m = mode ∧ ∃ v, R' v w' := by
  intro c cs hc
  obtain ⟨v, w', hr, fr, s, hl⟩ := h.call .deferred (c :: cs)
  subst hc
  exact ⟨c.mode, w', ⟨rfl, v, hr⟩, fr, v, s, hl⟩
def recOf : FrameMode → Value × FrameMode
  | .panicking ({ v, recovered := false, goexit := false } :: older) => (v, .panicking ({ v, recovered := true } :: older))
  | m => (.nilIface, m)
theorem tryRec (fr c : Frame) (cs : List Frame) (h : fr.kind = .deferred) : (tryRecover fr (c :: cs)) = none ∧ recOf c.mode = (.nilIface, c.mode) ∨ ∃ v m, tryRecover fr (c :: cs) = some (v, { c with mode := m } :: cs) ∧ recOf c.mode = (v, m) := by
  obtain ⟨fn, tmps, todo, D, mode, kind, rd⟩ := c
  simp only [tryRecover, h]
  cases mode with
  | run => left; exact ⟨rfl, rfl⟩
  | returning => left; exact ⟨rfl, rfl⟩
  | panicking ch =>
    cases ch with
    | nil => left; exact ⟨rfl, rfl⟩
    | cons e older =>
      obtain ⟨v, r, ge⟩ := e
      cases r <;> cases ge
      · right; exact ⟨v, _, rfl, rfl⟩
      · left; exact ⟨rfl, rfl⟩
      · left; exact ⟨rfl, rfl⟩
      · left; exact ⟨rfl, rfl⟩
theorem DCall.rec {fn : Func} {c : Code} {N id : Nat} {d : Tmp} {args : List Value} {mode mode' : FrameMode} {v : Value} {R : FrameMode → World → Prop} (hf : P.funcs[f]? = some fn) (hb : fn.body = some (.seq (.region id #[⟨some d, .call ⟨.builtin .recover, #[], #[]⟩, ty, pos, aft, none⟩] false) c)) (hN : fn.ntmps = N) (hl : Nat.ble args.length N = true) (hd : Nat.blt d N = true)
    (hrec : recOf mode = (v, mode')) (h : Run P f N none [.code c] ((Env.enter args).put (some d) v) [] w fun z w' => match z with | .ret _ => R mode' w' | .pan _ => False) : DCall P f args.toArray w mode R := by
  intro cl cs hcl
  have ht := (Rep.enter N args (Nat.le_of_ble_eq_true hl)).put d v (blt_lt hd)
  obtain ⟨z, w', hr, m, s1, hT⟩ := h .deferred ({ cl with mode := mode' } :: cs) _ (fun h => absurd rfl h) ht
  obtain ⟨fr, rfl, hl'⟩ := hT
  cases z with
  | pan ch => exact hr.elim
  | ret u =>
    have hent : Frame.enter P f args.toArray .deferred = Fm f none .deferred (args.toArray ++ Array.replicate (N - args.toArray.size) undef) [.code (.seq (.region id #[⟨some d, .call ⟨.builtin .recover, #[], #[]⟩, ty, pos, aft, none⟩] false) c)] [] .run := by
      simp [Frame.enter, hf, hb, hN]
    refine ⟨mode', w', hr, fr, u, ?_, hl'⟩
    rw [hent]
    clear ht
    generalize args.toArray ++ Array.replicate (N - args.toArray.size) undef = T at *
    have st1 : step P (lone (Fm f none .deferred T [.code (.seq (.region id #[⟨some d, .call ⟨.builtin .recover, #[], #[]⟩, ty, pos, aft, none⟩] false) c)] [] .run) (cl :: cs) w) = .next (lone (Fm f none .deferred T [.code (.region id #[⟨some d, .call ⟨.builtin .recover, #[], #[]⟩, ty, pos, aft, none⟩] false), .code c] [] .run) (cl :: cs) w) :=
      step_lone_go (by simp [stepG, stepG.exec])
    have st2 : step P (lone (Fm f none .deferred T [.code (.region id #[⟨some d, .call ⟨.builtin .recover, #[], #[]⟩, ty, pos, aft, none⟩] false), .code c] [] .run) (cl :: cs) w) = .next (lone (Fm f none .deferred T [.inRegion #[⟨some d, .call ⟨.builtin .recover, #[], #[]⟩, ty, pos, aft, none⟩] [0], .code c] [] .run) (cl :: cs) w) :=
      step_lone_go (by simp [stepG, stepG.exec, List.range_succ])
    have st3 : step P (lone (Fm f none .deferred T [.inRegion #[⟨some d, .call ⟨.builtin .recover, #[], #[]⟩, ty, pos, aft, none⟩] [0], .code c] [] .run) (cl :: cs) w) = .next (lone (Fm f none .deferred (T.setIfInBounds d v) [.inRegion #[⟨some d, .call ⟨.builtin .recover, #[], #[]⟩, ty, pos, aft, none⟩] [], .code c] [] .run) ({ cl with mode := mode' } :: cs) w) := by
      refine step_lone_go ?_
      rcases tryRec (Fm f none .deferred T [.inRegion #[⟨some d, .call ⟨.builtin .recover, #[], #[]⟩, ty, pos, aft, none⟩] [0], .code c] [] .run) cl cs rfl with ⟨h1, h2⟩ | ⟨v2, m2, h1, h2⟩
      · rw [hcl, hrec] at h2
        cases h2
        simp [stepG, stepG.exec, stepG.oper, Frame.oper?, Region.wanted, stepG.apply, execOp, resolve, invoke, builtin, h1, Frame.finish, ← hcl]
      · rw [hcl, hrec] at h2
        cases h2
        simp [stepG, stepG.exec, stepG.oper, Frame.oper?, Region.wanted, stepG.apply, execOp, resolve, invoke, builtin, h1, Frame.finish]
    have st4 : step P (lone (Fm f none .deferred (T.setIfInBounds d v) [.inRegion #[⟨some d, .call ⟨.builtin .recover, #[], #[]⟩, ty, pos, aft, none⟩] [], .code c] [] .run) ({ cl with mode := mode' } :: cs) w) = .next (lone (Fm f none .deferred (T.setIfInBounds d v) [.code c] [] .run) ({ cl with mode := mode' } :: cs) w) :=
      step_lone_go (by simp [stepG, stepG.exec])
    exact .head st1 (.head st2 (.head st3 (.head st4 s1)))
def after : FrameMode → FrameMode
  | .panicking ({ recovered := true, .. } :: older) => match older.dropWhile (!·.goexit) with
    | [] => .returning
    | rest => .panicking rest
  | m => m
theorem unw_defer {G : FuncId} {cap xs : List Value} {mode : FrameMode} {ds : List Deferred} {R' : FrameMode → World → Prop} (hG : ∀ args w, (callFunc G args).run P w = .ok (.enter G args) w) (hm : mode ≠ .run) (hc : DCall P G (xs ++ cap).toArray w mode R') (h : ∀ m w', R' m w' → Unw P f N (after m) E ds w' R) :
    Unw P f N mode E (⟨.fn (.func G) cap.toArray, xs.toArray⟩ :: ds) w R := by
  intro kind cs tmps todo ht
  obtain ⟨m1, w1, hr, fr1, v, s1, hm1, hd1, hk1, hf1, fn1, hfn1, hres⟩ := hc (Fm f none kind tmps todo ds mode) cs rfl
  obtain ⟨o, w', r, fr, s2, hl⟩ := h m1 w1 hr kind cs tmps todo ht
  refine ⟨o, w', r, fr, .head (step_lone_go ?_) (s1.trans (.head (step_lone_go ?_) s2)), hl⟩
  · cases mode with
    | run => exact absurd rfl hm
    | returning => simp [stepG, unwind, callDeferred, invoke, hG, List.append_toArray]
    | panicking ch => simp [stepG, unwind, callDeferred, invoke, hG, List.append_toArray]
  · simp [stepG, unwind, doReturn, hm1, hd1, hk1, hf1, hfn1, hres, after]
    cases m1 with
    | run => rfl
    | returning => rfl
    | panicking ch =>
      cases ch with
      | nil => rfl
      | cons e older =>
        obtain ⟨ev, rc, ge⟩ := e
        cases rc
        · rfl
        · simp only []
          split <;> simp_all
/-! ### 4. Interface values -/
section
variable {P : Program} {ρ : Operand → Value} {w : World} {dst : Option Tmp} {ty : TypeId} {pos : String} {aft : Array Edge} {g : Option (Nat × Bool)}
theorem meths {T : TypeId} {ms : Array (String × TypeId)} (h : P.underlying T = some (.interface ms)) : P.underlying T = some (.interface (P.methodsAt T)) := by
  have : P.methodsAt T = ms := by simp [Program.methodsAt, h]
  rw [this]; exact h
theorem eqIf0 {T T' : TypeId} {x : Operand} {ms : Array (String × TypeId)} (hT : P.underlying T = some (.interface ms)) (hx : ρ x = .nilIface) (hy : ρ (.const .nilIface) = .nilIface) : Does P ⟨dst, .binOp .eql T x (.const .nilIface) T', ty, pos, aft, g⟩ ρ w (.bool true) w :=
  does_run rfl (by
    have h1 := run_equal_nil_nil (P := P) w T (meths hT)
    simp only [execOp, hx, hy, binOp, eqGuard]
    simp [h1])
theorem eqIf1 {T T' U : TypeId} {x : Operand} {v : Value} {ms : Array (String × TypeId)} (hT : P.underlying T = some (.interface ms)) (hx : ρ x = .iface U v) (hy : ρ (.const .nilIface) = .nilIface) : Does P ⟨dst, .binOp .eql T x (.const .nilIface) T', ty, pos, aft, g⟩ ρ w (.bool false) w :=
  does_run rfl (by
    have h1 := run_equal_held_nil (P := P) w T U v (meths hT)
    simp only [execOp, hx, hy, binOp, eqGuard]
    simp [h1])
theorem tAssert {T U : TypeId} {x : Operand} {v : Value} {d : TypeDesc} (hT : P.underlying T = some d) (hd : (match d with | .interface _ => false | _ => true) = true) (hx : ρ x = .iface T v) : Does P ⟨dst, .typeAssert x U T true, ty, pos, aft, g⟩ ρ w (.tuple #[v, .bool true]) w :=
  does_run rfl (by
    cases d <;> first | (cases hd; done) | simp [execOp, hx, Instr.typeAssert, run_underlying hT])
end
end
/-! ### lists -/
theorem getN {α : Type} {l : List α} {n : Nat} (i : Nat) (hl : l.length = n) (h : (i : Int) < (n : Int)) : ∃ x, l[i]? = some x := ⟨l[i]'Zz, List.getElem?_eq_getElem Zz⟩
theorem drop_at {α : Type} {l : List α} {i : Nat} {x : α} (hx : l[i]? = some x) : l.drop i = x :: l.drop (i + 1) := by
  obtain ⟨h, rfl⟩ := List.getElem?_eq_some_iff.1 hx
  exact List.drop_eq_getElem_cons h
theorem take_at {α : Type} {l : List α} {i : Nat} {x : α} (hx : l[i]? = some x) : l.take (i + 1) = l.take i ++ [x] := by
  obtain ⟨h, rfl⟩ := List.getElem?_eq_some_iff.1 hx
  exact (List.take_append_getElem h).symm
/-! ### registers of 32 bits -/
theorem ofInt32 (a : BitVec 32) : BitVec.ofInt 32 (a.toNat : Int) = a := by
  rw [BitVec.ofInt_natCast, BitVec.ofNat_toNat, BitVec.setWidth_eq]
theorem w32 (a : BitVec 32) : IntKind.u32.wrap (a.toNat : Int) = (a.toNat : Int) := w_u32 (by have := a.isLt; omega)
theorem xor32 (a b : BitVec 32) : IntKind.u32.wrap ((BitVec.ofInt IntKind.u32.bits (a.toNat : Int) ^^^ BitVec.ofInt IntKind.u32.bits (b.toNat : Int)).toNat : Int) = ((a ^^^ b).toNat : Int) := by
  show IntKind.u32.wrap ((BitVec.ofInt 32 (a.toNat : Int) ^^^ BitVec.ofInt 32 (b.toNat : Int)).toNat : Int) = _
  rw [ofInt32, ofInt32]; exact w32 _
theorem and32 (a b : BitVec 32) : IntKind.u32.wrap ((BitVec.ofInt IntKind.u32.bits (a.toNat : Int) &&& BitVec.ofInt IntKind.u32.bits (b.toNat : Int)).toNat : Int) = ((a &&& b).toNat : Int) := by
  show IntKind.u32.wrap ((BitVec.ofInt 32 (a.toNat : Int) &&& BitVec.ofInt 32 (b.toNat : Int)).toNat : Int) = _
  rw [ofInt32, ofInt32]; exact w32 _
theorem or32 (a b : BitVec 32) : IntKind.u32.wrap ((BitVec.ofInt IntKind.u32.bits (a.toNat : Int) ||| BitVec.ofInt IntKind.u32.bits (b.toNat : Int)).toNat : Int) = ((a ||| b).toNat : Int) := by
  show IntKind.u32.wrap ((BitVec.ofInt 32 (a.toNat : Int) ||| BitVec.ofInt 32 (b.toNat : Int)).toNat : Int) = _
  rw [ofInt32, ofInt32]; exact w32 _
theorem com32 (a : BitVec 32) : IntKind.u32.wrap ((BitVec.ofInt IntKind.u32.bits (if IntKind.u32.signed then -1 else IntKind.u32.max) ^^^ BitVec.ofInt IntKind.u32.bits (a.toNat : Int)).toNat : Int) = ((~~~a).toNat : Int) := by
  show IntKind.u32.wrap ((BitVec.ofInt 32 4294967295 ^^^ BitVec.ofInt 32 (a.toNat : Int)).toNat : Int) = _
  rw [ofInt32, show BitVec.ofInt 32 4294967295 = BitVec.allOnes 32 by decide, BitVec.allOnes_xor]; exact w32 _
theorem shr32 (a : BitVec 32) (k : Nat) (hk : k ≤ 32) : ((a.toNat : Nat) : Int).fdiv (2 ^ (min ((k : Int)).toNat IntKind.u32.bits)) = ((a >>> k).toNat : Int) := by
  have : min ((k : Int)).toNat IntKind.u32.bits = k := by show min ((k : Int)).toNat 32 = k; omega
  have e : (2 : Int) ^ k = ((2 ^ k : Nat) : Int) := by rw [Int.natCast_pow]; rfl
  rw [this, e, BitVec.toNat_ushiftRight, Nat.shiftRight_eq_div_pow, Int.fdiv_eq_ediv_of_nonneg _ (Int.natCast_nonneg _)]
  rfl
theorem shl32 (a : BitVec 32) (k : Nat) (hk : k ≤ 32) : IntKind.u32.wrap (((a.toNat : Nat) : Int) * 2 ^ (min ((k : Int)).toNat IntKind.u32.bits)) = ((a <<< k).toNat : Int) := by
  have : min ((k : Int)).toNat IntKind.u32.bits = k := by show min ((k : Int)).toNat 32 = k; omega
  have e : (2 : Int) ^ k = ((2 ^ k : Nat) : Int) := by rw [Int.natCast_pow]; rfl
  rw [this, e, BitVec.toNat_shiftLeft, Nat.shiftLeft_eq, u32_wrap, ← Int.natCast_mul]
  rfl
theorem cv8_32 (c : UInt8) : IntKind.u32.wrap (c.toNat : Int) = ((BitVec.ofNat 32 c.toNat).toNat : Int) := by
  have := c.toNat_lt
  rw [BitVec.toNat_ofNat, u32_wrap]; omega
theorem cv32_8 (a : BitVec 32) : IntKind.u8.wrap (a.toNat : Int) = ((UInt8.ofNat a.toNat).toNat : Int) := by
  rw [u8_wrap, UInt8.toNat_ofNat']; omega
/-! ### rows of the call's own, new -/
def Fresh {α : Type} (K : Kd α) (e : TypeId) (w w' : World) (v : Value) (l : List α) : Prop := Mine K e (fun k => w.heap.size ≤ k) 0 0 w' v l ∧ Keep w w'
theorem Mine.step {α : Type} {K : Kd α} {e : TypeId} {S T : Nat → Prop} {w : World} {v : Value} {xs : List α} (h : Mine K e S 0 0 w v xs) (hS : ∀ k, S k → T k) : Mine K e T 0 0 w v xs := h.mono fun k _ => hS k
section
variable {P : Program} {ρ : Operand → Value} {w : World} {dst : Option Tmp} {ty : TypeId} {pos : String} {aft : Array Edge} {g : Option (Nat × Bool)}
def NewRow (w : World) (b : Nat) (e : TypeId) (cap sz : Nat) : Prop := ∃ cur : Array Value, w.heap[b]? = some (.cells cur e (0, 0)) ∧ cur.size = cap * sz ∧ cap ≤ maxLen
theorem appMkE {e T U bytes sz : TypeId} {s x : Operand} {n : Int} (hT : P.underlying T = some (.slice e)) (hU : P.underlying U = some (.int .i64)) (hI : ElemInfo P e sz bytes) (hs : ρ s = .slice none 0 0) (hx : ρ x = .int .i64 n) (h0 : 0 < n) (hn : n * bytes ≤ 140737488355328) :
    DoesE P ⟨dst, .call ⟨.builtin .append, #[s, x], #[T, U]⟩, ty, pos, aft, g⟩ ρ w fun v w' => ∃ cap, v = .slice (some ⟨w.heap.size, 0, none⟩) n.toNat cap ∧ n.toNat ≤ cap ∧ NewRow w' w.heap.size e cap sz ∧ Keep w w' ∧ w'.heap.size = w.heap.size + 1 := by
  obtain ⟨⟨i, z, h1, h2, h3, h4, h5⟩, h6, h7⟩ := hI
  subst h3
  subst h4
  obtain ⟨m, rfl⟩ := Int.eq_ofNat_of_zero_le (Int.le_of_lt h0)
  have hm0 : 0 < m := by omega
  have hmb : m * i.bytes ≤ 140737488355328 := Int.ofNat_le.1 (by rw [Int.natCast_mul]; exact hn)
  have hm : m ≤ 140737488355328 := Nat.le_trans (Nat.le_mul_of_pos_right _ h7) hmb
  have hw : IntKind.i64.wrap (m : Int) = (m : Int) := w_i64 Zz
  have hn0 : m ≠ 0 := by omega
  have hms : m * i.size ≠ 0 := Nat.ne_of_gt (Nat.mul_pos hm0 h6)
  have h63' : ¬ (9223372036854775807 < (m : Int)) := by omega
  have h48' : ¬ (281474976710656 < Builtin.nextslicecap m 0 * i.bytes) := by rw [nextslicecap_zero hm0]; omega
  have h48 : ¬ ((281474976710656 : Int) < (m : Int) * (i.bytes : Int)) := by
    have : ((m * i.bytes : Nat) : Int) ≤ 140737488355328 := Int.ofNat_le.2 hmb
    rw [Int.natCast_mul] at this; omega
  have hneg : ¬ ((m : Int) < 0) := by omega
  refine (does_run (v := .slice (some ⟨w.heap.size, 0, none⟩) m (grownCap w m 0 e)) (w' := w.drew.alloc (.cells (Builtin.zeroCells z.cells m ++ Builtin.zeroCells z.cells (grownCap w m 0 e - m)) e)) rfl ?_).e ⟨grownCap w m 0 e, rfl, ?_, ⟨_, heap_alloc_new w.drew _, ?_, ?_⟩, ⟨rfl, rfl, rfl, by simp, fun k hk _ => heap_alloc_old w.drew _ hk⟩, by simp⟩
  · have key : (Builtin.append_ #[T, U] ty #[.slice none 0 0, .int .i64 (m : Int)]).run P w = .ok (.slice (some ⟨w.heap.size, 0, none⟩) m (grownCap w m 0 e)) (w.drew.alloc (.cells (Builtin.zeroCells z.cells m ++ Builtin.zeroCells z.cells (grownCap w m 0 e - m)) e)) := by
      simp [Builtin.append_, run_underlying hT, run_underlying hU, sizeOf, typeInfo, zeroValue, h1, h2, hn0, hms, h63', h48', h48, hneg, hw, asInt, asIntOf, Question.forced, run_firstCells_none, newRow, grownCap]
    simp only [execOp, resolve, invoke, builtin, List.map_toArray, List.map_cons, List.map_nil, hs, hx]
    simp [key]
  · exact grownCap_ge w m 0 e
  · rw [Array.size_append, size_zeroCells, size_zeroCells, h5, ← Nat.add_mul]
    congr 1
    have := grownCap_ge w m 0 e
    omega
  · exact grownCap_le_maxLen w m 0 e (by simp only [maxLen]; omega)
theorem NewRow.mine {α : Type} {K : Kd α} {e : TypeId} {S : Nat → Prop} {b cap : Nat} (h : NewRow w b e cap K.sz) (hS : S b) : Mine K e S 0 0 w (.slice (some ⟨b, 0, none⟩) 0 cap) [] := by
  obtain ⟨cur, h1, h2, h3⟩ := h
  exact ⟨some b, ⟨⟨[], rfl, by simp, .inr ⟨b, cap, cur, rfl, Nat.zero_le _, h1, Nat.zero_le _, h3, h2, by simp⟩⟩, rfl⟩, fun k hk => by cases hk; exact hS⟩
theorem capSl {e T : TypeId} {x : Operand} {A : Option Addr} {n c : Nat} (hT : P.underlying T = some (.slice e)) (hx : ρ x = .slice A n c) : Does P ⟨dst, .call ⟨.builtin .cap, #[x], #[T]⟩, ty, pos, aft, g⟩ ρ w (.int .i64 (c : Int)) w :=
  does_run rfl (by simp [execOp, resolve, invoke, builtin, Builtin.cap_, run_underlying hT, hx, goInt])
theorem idxArr {e T : TypeId} {sz n : Nat} {x i : Operand} {ki : IntKind} {ad : Addr} {j : Int} (hT : P.underlying T = some (.array n e)) (hs : ∀ w, (sizeOf e).run P w = .ok sz w) (hx : ρ x = .pointer (some ad)) (hi : ρ i = .int ki j) (h0 : 0 ≤ j ∧ j < (n : Int)) :
    Does P ⟨dst, .indexAddr T x i, ty, pos, aft, g⟩ ρ w (.pointer (some (ad.add (j.toNat * sz)))) w :=
  does_run rfl (by simp [execOp, hx, hi, Instr.indexAt, asIntOf, run_underlying hT, hs, h0.1, h0.2, Instr.sureAddr])
theorem ptr_eq {T e : TypeId} (h : P.underlying T = some (.pointer e)) : P.underlying T = some (.pointer (P.pointee T)) := by
  have : P.pointee T = e := by simp [Program.pointee, h]
  rw [this]; exact h
theorem eqPtrN {T e T' : TypeId} {x y : Operand} {A : Option Addr} (hT : P.underlying T = some (.pointer e)) (hx : ρ x = .pointer A) (hy : ρ y = .pointer none) : Does P ⟨dst, .binOp .eql T x y T', ty, pos, aft, g⟩ ρ w (.bool A.isNone) w :=
  does_run rfl (by
    have h1 := run_equal_pointer_nil (P := P) w T A (ptr_eq hT)
    simp only [execOp, hx, hy, binOp, eqGuard]
    simp [h1])
theorem nePtrN {T e T' : TypeId} {x y : Operand} {A : Option Addr} (hT : P.underlying T = some (.pointer e)) (hx : ρ x = .pointer A) (hy : ρ y = .pointer none) : Does P ⟨dst, .binOp .neq T x y T', ty, pos, aft, g⟩ ρ w (.bool (!A.isNone)) w :=
  does_run rfl (by
    have h1 := run_equal_pointer_nil (P := P) w T A (ptr_eq hT)
    simp only [execOp, hx, hy, binOp, eqGuard]
    simp [h1])
end
/-! ### rows that are read whole or are the call's own: both -/
def FreshS {α : Type} (K : Kd α) (e : TypeId) (w w' : World) (v : Value) (l : List α) : Prop := ∃ A c, v = .slice A l.length c ∧ l.length ≤ c ∧ Sl K 0 w'.heap.size w' A l.length l ∧ Mine K e (fun k => w.heap.size ≤ k) 0 0 w' v l ∧ Keep w w'
theorem Fresh.s {α : Type} {K : Kd α} {e : TypeId} {w w' : World} {v : Value} {l : List α} (hF : Flat K) (h : Fresh K e w w' v l) : FreshS K e w w' v l := by
  have q := h.1.slF hF 0 (fun _ _ => Nat.zero_le _)
  obtain ⟨A, c, e, hc, hs⟩ := q
  exact ⟨A, c, e, hc, hs, h.1, h.2⟩
theorem freshB {e : TypeId} {w : World} : ∀ {l : List UInt8} (v : Value) (w' : World), Fresh KB e w w' v l → FreshS KB e w w' v l := fun _ _ h => h.s KB_flat
theorem repsB {w : World} : ∀ (ys : List UInt8), RepsV KB w ys (ys.map fun y => .int .u8 (y.toNat : Int))
  | [] => trivial
  | y :: ys => ⟨⟨_, rfl, KB_R 0 0 w y⟩, repsB ys⟩
def KR1 : Kd Value where
  sz := 1
  R := fun _ _ _ v cs => cs = [v] ∧ v.oneCell' = true
  len := by rintro lo hi w x cs ⟨rfl, _⟩; rfl
  move := fun h _ => h
  wide := fun h _ _ => h
  one := by rintro lo hi w x cs ⟨rfl, h⟩ u hu; simp at hu; subst hu; exact h
def KRN (sz : Nat) : Kd Value where
  sz := sz
  R := fun _ _ _ v cs => v = .agg cs.toArray ∧ cs.length = sz ∧ ∀ u, u ∈ cs → u.oneCell' = true
  len := fun h => h.2.1
  move := fun h _ => h
  wide := fun h _ _ => h
  one := fun h => h.2.2
theorem KRN_flat (n : Nat) : Flat (KRN n) := fun h => h
def SlRows {α : Type} (K : Kd α) (lo hi : Nat) (w : World) : List Value → List (List α) → Prop
  | [], [] => True
  | v :: vs, l :: ls => (∃ A n c, v = .slice A n c ∧ n ≤ c ∧ Sl K lo hi w A n l) ∧ SlRows K lo hi w vs ls
  | _, _ => False
theorem SlRows.len {α : Type} {K : Kd α} {lo hi : Nat} {w : World} : ∀ {vs : List Value} {ls : List (List α)}, SlRows K lo hi w vs ls → vs.length = ls.length
  | [], [], _ => rfl
  | _ :: _, _ :: _, h => by simp [SlRows.len h.2]
  | [], _ :: _, h => h.elim
  | _ :: _, [], h => h.elim
theorem SlRows.get {α : Type} {K : Kd α} {lo hi : Nat} {w : World} : ∀ {vs : List Value} {ls : List (List α)}, SlRows K lo hi w vs ls → ∀ {i : Nat} {v : Value}, vs[i]? = some v → ∃ l A n c, ls[i]? = some l ∧ v = .slice A n c ∧ n ≤ c ∧ Sl K lo hi w A n l
  | [], [], _, i, v, hv => by simp at hv
  | u :: vs, l :: ls, h, i, v, hv => by
    cases i with
    | zero =>
      simp only [List.getElem?_cons_zero, Option.some.injEq] at hv
      subst hv
      obtain ⟨A, n, c, e, h1, h2⟩ := h.1
      exact ⟨l, A, n, c, rfl, e, h1, h2⟩
    | succ i => simp only [List.getElem?_cons_succ] at hv ⊢; exact SlRows.get h.2 hv
  | [], _ :: _, h, _, _, _ => h.elim
  | _ :: _, [], h, _, _, _ => h.elim
theorem SlRows.keep {α : Type} {K : Kd α} {lo hi : Nat} {w w' : World} (x : Keep w w') : ∀ {vs : List Value} {ls : List (List α)}, SlRows K lo hi w vs ls → SlRows K lo hi w' vs ls
  | [], [], _ => trivial
  | _ :: _, _ :: _, h => by
    obtain ⟨⟨A, n, c, e, h1, h2⟩, h3⟩ := h
    exact ⟨⟨A, n, c, e, h1, h2.keep x⟩, SlRows.keep x h3⟩
  | [], _ :: _, h => h.elim
  | _ :: _, [], h => h.elim
section
variable {P : Program} {ρ : Operand → Value} {w : World} {dst : Option Tmp} {ty : TypeId} {pos : String} {aft : Array Edge} {g : Option (Nat × Bool)}
theorem litKF {α : Type} {K : Kd α} (hF : Flat K) {T e : TypeId} {n : Nat} {z : Value} {ps : Array (Nat × Operand)} {xs : List Operand} {vs : List Value} {ys : List α} (hT : P.underlying T = some (.slice e)) (hs : ∀ w, (sizeOf e).run P w = .ok K.sz w) (hz : ∀ w, (zeroValue e).run P w = .ok z w)
    (h24 : Nat.ble (n * K.sz) 16777216 = true) (h0 : Nat.blt 0 (n * K.sz) = true) (hps : ps.toList = (xs.zipIdx 0).map fun x => (x.2, x.1)) (hn : xs.length = n) (hv : xs.map ρ = vs) (hr : RepsV K w ys vs) :
    DoesE P ⟨dst, .buildSlice T n ps, ty, pos, aft, g⟩ ρ w fun v' w' => v' = .slice (some ⟨w.heap.size, 0, none⟩) n n ∧ Sl K w.heap.size w'.heap.size w' (some ⟨w.heap.size, 0, none⟩) n ys ∧ Blk w' w.heap.size (vs.flatMap fun v => v.cells.toList) e ∧ Keep w w' ∧ w'.heap.size = w.heap.size + 1 := by
  obtain ⟨q1, q2, q3⟩ := hr.reps
  have hvl : vs.length = n := by rw [← hv, List.length_map, hn]
  have h0' := blt_lt h0
  have hp : 0 < K.sz := Nat.pos_of_ne_zero fun e => by rw [e] at h0'; omega
  have e1 : (ps.map fun (i, x) => (i, ρ x)).toList = (vs.zipIdx 0).map fun x => (x.2, x.1) := by
    rw [Array.toList_map, hps, ← hv, List.zipIdx_map, List.map_map, List.map_map]
    rfl
  refine (litNE (K := K) (lo := w.heap.size) (hi := w.heap.size) (cs := vs.flatMap fun v => v.cells.toList) (ys := ys) hT hs hz (Nat.le_of_ble_eq_true h24) h0' ?_ (q1.flat hF) Zz).mono fun v' w' ⟨h1, h2, h3, h4, h5⟩ => ⟨h1, h2.wide Zz Zz, h3, h4, h5⟩
  rw [e1]
  exact Great.fill_whole hp vs _ q3 (by simp [hvl])
end
theorem SlRows.ext {α : Type} {K : Kd α} {lo hi : Nat} {w w' : World} {T : Nat → Prop} (x : Ext T w w') (hT : ∀ k, lo ≤ k → k < hi → ¬ T k) : ∀ {vs : List Value} {ls : List (List α)}, SlRows K lo hi w vs ls → SlRows K lo hi w' vs ls
  | [], [], _ => trivial
  | _ :: _, _ :: _, h => by
    obtain ⟨⟨A, n, c, e, h1, h2⟩, h3⟩ := h
    exact ⟨⟨A, n, c, e, h1, h2.ext x hT⟩, SlRows.ext x hT h3⟩
  | [], _ :: _, h => h.elim
  | _ :: _, [], h => h.elim
section
variable {P : Program} {f : FuncId} {ty : TypeId} {pos : String} {aft : Array Edge} {w : World}
theorem DCall.rec2 {o2 : Oper} {fn : Func} {c : Code} {N id : Nat} {d : Tmp} {args : List Value} {mode mode' : FrameMode} {v : Value} {R : FrameMode → World → Prop} (hf : P.funcs[f]? = some fn) (hb : fn.body = some (.seq (.region id #[⟨some d, .call ⟨.builtin .recover, #[], #[]⟩, ty, pos, aft, none⟩, o2] false) c)) (hN : fn.ntmps = N) (hl : Nat.ble args.length N = true) (hd : Nat.blt d N = true)
    (hrec : recOf mode = (v, mode')) (h : Ops P f N none #[⟨some d, .call ⟨.builtin .recover, #[], #[]⟩, ty, pos, aft, none⟩, o2] [o2] [.code c] ((Env.enter args).put (some d) v) [] w fun z w' => match z with | .ret _ => R mode' w' | .pan _ => False) : DCall P f args.toArray w mode R := by
  intro cl cs hcl
  have ht := (Rep.enter N args (Nat.le_of_ble_eq_true hl)).put d v (blt_lt hd)
  obtain ⟨z, w', hr, m, s1, hT⟩ := h [1] rfl .deferred ({ cl with mode := mode' } :: cs) _ (fun h => absurd rfl h) ht
  obtain ⟨fr, rfl, hl'⟩ := hT
  cases z with
  | pan ch => exact hr.elim
  | ret u =>
    have hent : Frame.enter P f args.toArray .deferred = Fm f none .deferred (args.toArray ++ Array.replicate (N - args.toArray.size) undef) [.code (.seq (.region id #[⟨some d, .call ⟨.builtin .recover, #[], #[]⟩, ty, pos, aft, none⟩, o2] false) c)] [] .run := by
      simp [Frame.enter, hf, hb, hN]
    refine ⟨mode', w', hr, fr, u, ?_, hl'⟩
    rw [hent]
    clear ht
    generalize args.toArray ++ Array.replicate (N - args.toArray.size) undef = T at *
    have st1 : step P (lone (Fm f none .deferred T [.code (.seq (.region id #[⟨some d, .call ⟨.builtin .recover, #[], #[]⟩, ty, pos, aft, none⟩, o2] false) c)] [] .run) (cl :: cs) w) = .next (lone (Fm f none .deferred T [.code (.region id #[⟨some d, .call ⟨.builtin .recover, #[], #[]⟩, ty, pos, aft, none⟩, o2] false), .code c] [] .run) (cl :: cs) w) :=
      step_lone_go (by simp [stepG, stepG.exec])
    have st2 : step P (lone (Fm f none .deferred T [.code (.region id #[⟨some d, .call ⟨.builtin .recover, #[], #[]⟩, ty, pos, aft, none⟩, o2] false), .code c] [] .run) (cl :: cs) w) = .next (lone (Fm f none .deferred T [.inRegion #[⟨some d, .call ⟨.builtin .recover, #[], #[]⟩, ty, pos, aft, none⟩, o2] [0, 1], .code c] [] .run) (cl :: cs) w) :=
      step_lone_go (by simp [stepG, stepG.exec, List.range_succ])
    have st3 : step P (lone (Fm f none .deferred T [.inRegion #[⟨some d, .call ⟨.builtin .recover, #[], #[]⟩, ty, pos, aft, none⟩, o2] [0, 1], .code c] [] .run) (cl :: cs) w) = .next (lone (Fm f none .deferred (T.setIfInBounds d v) [.inRegion #[⟨some d, .call ⟨.builtin .recover, #[], #[]⟩, ty, pos, aft, none⟩, o2] [1], .code c] [] .run) ({ cl with mode := mode' } :: cs) w) := by
      refine step_lone_go ?_
      rcases tryRec (Fm f none .deferred T [.inRegion #[⟨some d, .call ⟨.builtin .recover, #[], #[]⟩, ty, pos, aft, none⟩, o2] [0, 1], .code c] [] .run) cl cs rfl with ⟨h1, h2⟩ | ⟨v2, m2, h1, h2⟩
      · rw [hcl, hrec] at h2
        cases h2
        simp [stepG, stepG.exec, stepG.oper, Frame.oper?, Region.wanted, stepG.apply, execOp, resolve, invoke, builtin, h1, Frame.finish, ← hcl]
      · rw [hcl, hrec] at h2
        cases h2
        simp [stepG, stepG.exec, stepG.oper, Frame.oper?, Region.wanted, stepG.apply, execOp, resolve, invoke, builtin, h1, Frame.finish]
    exact .head st1 (.head st2 (.head st3 s1))
end
end Go.Proofs.YtjjhddjllpihaaaGreatDoor.X
