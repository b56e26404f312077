/- Ranging over functions: what is yielded to, rounds, the loop, and what its end leaves. -/
import Derived.Test.YtgfficbkajcdpaaXStore
import Derived.RangeFuncRecord
namespace Go.Proofs.Ytgfficbkajcdpaa.X
open Go
set_option linter.unusedVariables false
set_option linter.unusedSimpArgs false

/-- A CALL OF THE VALUE yv, wherever it stands. -/
def YC (P : Program) (yv : Value) (args : List Value) (w : World) (R : Value → World → Prop) : Prop :=
  ∀ (dst : Option Tmp) (ty : TypeId) (pos : String) (aft : Array Edge) (g : Option (Nat × Bool)) (x : Operand) (xs : List Operand) (tys : Array TypeId) (ρ : Operand → Value), ρ x = yv → xs.map ρ = args → DoesE P ⟨dst, .call ⟨.value x, xs.toArray, tys⟩, ty, pos, aft, g⟩ ρ w R
theorem YC.mono {P : Program} {yv : Value} {args : List Value} {w : World} {R R' : Value → World → Prop} (h : YC P yv args w R) (hr : ∀ v w', R v w' → R' v w') : YC P yv args w R' :=
  fun dst ty pos aft g x xs tys ρ h1 h2 => (h dst ty pos aft g x xs tys ρ h1 h2).mono hr
theorem YC.of_ret {P : Program} {G : FuncId} {cap args : List Value} {w : World} {R : Value → World → Prop} (hc : Ret P G (args ++ cap).toArray w R) (hG : ∀ args w, (callFunc G args).run P w = .ok (.enter G args) w) : YC P (.func (.func G) #[] cap.toArray) args w R :=
  fun dst ty pos aft g x xs tys ρ h1 h2 => callVE h1 hc hG h2

/-! ### rounds -/
/-- The slots as an array. -/
def tmpsOf (N : Nat) (E : Env) : Array Value := Array.ofFn fun i : _root_.Fin N => E.at_ i.1
theorem Rep.unique {N : Nat} {E : Env} {tmps : Array Value} (h : Rep N E tmps) : tmps = tmpsOf N E := by
  apply Array.ext
  · rw [h.size]; simp [tmpsOf]
  · intro i h1 h2
    have := h.at_ i
    simp only [Array.getD, h1, dif_pos] at this
    simp [tmpsOf, ← this]

theorem lk_ge {N t : Nat} (ht : N ≤ t) (b : Nat → Value) (hb : b t = undef) : ∀ L : List (Nat × Value), (L.all fun p => Nat.blt p.1 N) = true → lk b L t = undef
  | [], _ => hb
  | (d, v) :: L, h => by
    simp only [List.all_cons, Bool.and_eq_true] at h
    have hd := blt_lt h.1
    have : Nat.beq d t = false := by
      cases hq : Nat.beq d t
      · rfl
      · have := Nat.eq_of_beq_eq_true hq; omega
    unfold lk
    rw [this]
    exact lk_ge ht b hb L h.2
theorem Rep.of {N : Nat} {E : Env} (h : (E.l.all fun p => Nat.blt p.1 N) = true) (hb : E.b = fun _ => undef) : Rep N E (tmpsOf N E) := by
  refine ⟨by simp [tmpsOf], fun t => ?_⟩
  by_cases ht : t < N
  · simp [Array.getD, tmpsOf, ht]
  · have h1 : E.at_ t = undef := lk_ge (by omega) E.b (by rw [hb]) E.l h
    rw [h1]
    simp [Array.getD, tmpsOf, ht]
section
variable {P : Program} {f : FuncId} {N : Nat} {k : List Item} {E : Env} {D : List Deferred} {w : World} {R : Out → World → Prop} {l : Nat} {r : Loop}
theorem YC.round {args : List Value} {R : Value → World → Prop} (hL : w.heap[l]? = some (.loop r)) (hs : args.length = r.params.size)
    (hrep : Rep N E ((r.params.zip args.toArray).foldl (fun tmps (t, a) => tmps.setIfInBounds t a) r.tmps))
    (hrun : Run P r.fn N (some l) [.code r.assign, .beginRound, .code r.body] E [] w fun o w' => match o with | .ret v => R v w' | .pan _ => False) : YC P (.func (.yield l) #[] #[]) args w R := by
  intro dst ty pos aft g x xs tys ρ hx hxs
  obtain ⟨o, w', hr, s⟩ := hrun
  cases o with
  | pan ch => exact hr.elim
  | ret v =>
    refine ⟨v, w', ?_, hr⟩
    intro fr cs ops i rest k ht hm ho hw he
    obtain ⟨m, s1, hT⟩ := s .normal (fr :: cs) _ (fun _ => ⟨rfl, by simp⟩) hrep
    have hm' := hT fr cs rfl
    subst hm'
    refine .head (step_lone_go ?_) s1
    have hy := run_yield (P := P) (args := args.toArray) hL (by simpa using hs)
    have hex : (execOp ρ ⟨dst, .call ⟨.value x, xs.toArray, tys⟩, ty, pos, aft, g⟩).run P w = .ok (.round l r.fn ((r.params.zip args.toArray).foldl (fun tmps (t, a) => tmps.setIfInBounds t a) r.tmps) r.assign r.body) w := by
      simp only [execOp, resolve, List.map_toArray, hxs, hx]
      simp [Deferred.ofValue, invoke, hy]
    rw [stepG_op' ht hm ho hw rfl, execOp_eq _ rfl he]
    simp only [stepG.apply, Sem.runT_eq, hex, GStep.bare_after, if_true, ht]
    rfl
theorem beginRound (hL : w.heap[l]? = some (.loop r)) (hr : r.state = .ready) (h : Run P f N (some l) k E D (w.putObj l (.loop { r with state := .busy })) R) : Run P f N (some l) (.beginRound :: k) E D w R := by
  obtain ⟨o, w', hq, s⟩ := h
  refine ⟨o, w', hq, fun kind cs tmps hc ht => ?_⟩
  obtain ⟨m, s1, hT⟩ := s kind cs tmps hc ht
  refine ⟨m, .head (step_lone_go ?_) s1, hT⟩
  have hb := run_beginRound (P := P) hL hr
  simp [stepG, stepG.exec, stepG.apply, hb, Frame.finish, Option.elim]
theorem endRound (hL : w.heap[l]? = some (.loop r)) (h : R (.ret (.bool true)) (w.putObj l (.loop { r with state := .ready, pending := none }))) : Run P f N (some l) [] E D w R := by
  refine ⟨_, _, h, fun kind cs tmps hc ht => ?_⟩
  obtain ⟨rfl, hne⟩ := hc (by simp)
  cases cs with
  | nil => exact absurd rfl hne
  | cons c cs =>
    refine ⟨lone (c.finish (.bool true)) cs (w.putObj l (.loop { r with state := .ready, pending := none })), .one (step_lone_go ?_), fun c' cs' e => ?_⟩
    · have hb := run_endRound (P := P) none hL
      simp [stepG, stepG.exec, hb, doReturn]
    · cases e; rfl
/-- THE LOOP: a call of the function, then what stands behind. -/
theorem rangeFunc {fo : Operand} {ps : Array Tmp} {assign body : Code} {gf : FuncId} {cap : List Value} {Q : World → Loop → Prop} (hf : E.ev fo = .func (.func gf) #[] cap.toArray) (hG : ∀ args w, (callFunc gf args).run P w = .ok (.enter gf args) w)
    (h : Ret P gf (.func (.yield (w.heap.size + 1)) #[] #[] :: cap).toArray ((w.alloc (.deferred (some []))).alloc (.loop { state := .ready, pending := none, fn := f, tmps := tmpsOf N E, params := ps, assign, body, defers := w.heap.size }))
      fun _ w2 => ∃ r, w2.heap[w.heap.size + 1]? = some (.loop r) ∧ r.state ≠ .busy ∧ r.pending = none ∧ Q w2 r)
    (h2 : ∀ w2 r, Q w2 r → w2.heap[w.heap.size + 1]? = some (.loop r) → Run P f N none k E (⟨.collected w.heap.size, #[]⟩ :: D) (w2.putObj (w.heap.size + 1) (.loop { r with state := .exhausted })) R) :
    Run P f N none (.code (.rangeFunc fo ps assign body) :: k) E D w R := by
  obtain ⟨v, w2, ⟨r, g1, g2, g3, g4⟩, s1⟩ := h.call
  obtain ⟨o, w3, hq, s2⟩ := h2 w2 r g4 g1
  refine ⟨o, w3, hq, fun kind cs tmps hc ht => ?_⟩
  have hu := ht.unique
  obtain ⟨m, s3, hT⟩ := s2 kind cs tmps hc ht
  obtain ⟨fr', s4, hm', hd, hk, hf', fn, hfn, hres⟩ := s1 .normal (Fm f none kind tmps (.inRangeFunc (w.heap.size + 1) :: k) (⟨.collected w.heap.size, #[]⟩ :: D) .run :: cs)
  have st2 : step P (lone fr' (Fm f none kind tmps (.inRangeFunc (w.heap.size + 1) :: k) (⟨.collected w.heap.size, #[]⟩ :: D) .run :: cs) w2) = .next (lone (Fm f none kind tmps (.endRangeFunc (w.heap.size + 1) :: k) (⟨.collected w.heap.size, #[]⟩ :: D) .run) cs w2) :=
    step_lone_go (by simp [stepG, unwind, doReturn, hm', hd, hk, hf', hfn, hres, Frame.finish])
  have st3 : step P (lone (Fm f none kind tmps (.endRangeFunc (w.heap.size + 1) :: k) (⟨.collected w.heap.size, #[]⟩ :: D) .run) cs w2) = .next (lone (Fm f none kind tmps k (⟨.collected w.heap.size, #[]⟩ :: D) .run) cs (w2.putObj (w.heap.size + 1) (.loop { r with state := .exhausted }))) :=
    step_lone_go (by
      have he := run_endLoop (P := P) g1 g2
      simp [stepG, stepG.exec, he, g3])
  refine ⟨m, .head (step_lone_go ?_) (s4.trans (.head st2 (.head st3 s3))), hT⟩
  have hev : (Fm f none kind tmps (.inRangeFunc (w.heap.size + 1) :: k) (⟨.collected w.heap.size, #[]⟩ :: D) .run).eval fo = .func (.func gf) #[] cap.toArray := by rw [frame_eval, ht.eval, hf]
  rw [← hu]
  have he := run_enterLoop_outer (P := P) (w := w) f tmps ps assign body
  have hconst : ∀ (fr : Frame) (v : Value), fr.eval (.const v) = v := fun _ _ => rfl
  simp [stepG, stepG.exec, he, stepG.apply, resolve, hev, hconst, Deferred.ofValue, invoke, hG]
theorem unw_collected {mode : FrameMode} {b : Nat} {ds : List Deferred} (hm : mode ≠ .run) (hb : w.heap[b]? = some (.deferred (some []))) (h : Unw P f N mode E ds (w.putObj b (.deferred none)) R) : Unw P f N mode E (⟨.collected b, #[]⟩ :: ds) w R := by
  obtain ⟨o, w', r, s⟩ := h
  refine ⟨o, w', r, fun kind cs tmps todo ht => ?_⟩
  obtain ⟨fr, s2, hl⟩ := s kind cs tmps todo ht
  refine ⟨fr, .head (step_lone_go ?_) s2, hl⟩
  have ht := run_takeDeferred (P := P) hb
  cases mode with
  | run => exact absurd rfl hm
  | returning => simp [stepG, unwind, ht]
  | panicking ch => simp [stepG, unwind, ht]
theorem putObj_at {w : World} {l : Nat} {o : Obj} (h : l < w.heap.size) : (w.putObj l o).heap[l]? = some o ∧ Ext (fun k => k = l) w (w.putObj l o) ∧ (w.putObj l o).heap.size = w.heap.size :=
  ⟨World.putObj_heap_same h, ⟨rfl, rfl, rfl, by simp [World.putObj], fun k _ hk => World.putObj_heap_other (fun e => hk e)⟩, by simp [World.putObj]⟩
theorem loop_lt {w : World} {l : Nat} {r : Loop} (h : w.heap[l]? = some (.loop r)) : l < w.heap.size := (Array.getElem?_eq_some_iff.1 h).1
theorem beginRound' (hL : w.heap[l]? = some (.loop r)) (hr : r.state = .ready) (h : ∀ w', w'.heap[l]? = some (.loop { r with state := .busy }) → Ext (fun k => k = l) w w' → w'.heap.size = w.heap.size → Run P f N (some l) k E D w' R) : Run P f N (some l) (.beginRound :: k) E D w R :=
  beginRound hL hr (let q := putObj_at (o := .loop { r with state := .busy }) (loop_lt hL); h _ q.1 q.2.1 q.2.2)
theorem endRound' (hL : w.heap[l]? = some (.loop { r with state := .busy })) (h1 : r.state = .ready) (h2 : r.pending = none) (h : ∀ w', w'.heap[l]? = some (.loop r) → Ext (fun k => k = l) w w' → w'.heap.size = w.heap.size → R (.ret (.bool true)) w') : Run P f N (some l) [] E D w R := by
  refine endRound hL ?_
  have e : ({ ({ r with state := .busy } : Loop) with state := .ready, pending := none } : Loop) = r := by cases r; simp_all
  rw [e]
  have q := putObj_at (o := .loop r) (loop_lt hL)
  exact h _ q.1 q.2.1 q.2.2
theorem rangeFunc' {fo : Operand} {ps : Array Tmp} {assign body : Code} {gf : FuncId} {cap : List Value} {Q : World → Prop} (hf : E.ev fo = .func (.func gf) #[] cap.toArray) (hG : ∀ args w, (callFunc gf args).run P w = .ok (.enter gf args) w) (hl : (E.l.all fun p => Nat.blt p.1 N) = true) (hb : E.b = fun _ => undef)
    (h : ∀ (rec : Loop) (w1 : World) (T : Array Value), rec.state = .ready → rec.pending = none → rec.fn = f → rec.tmps = T → Rep N E T → rec.params = ps → rec.assign = assign → rec.body = body → w1.heap[w.heap.size + 1]? = some (.loop rec) → w1.heap[w.heap.size]? = some (.deferred (some [])) → Keep w w1 → w1.heap.size = w.heap.size + 2 →
      Ret P gf (.func (.yield (w.heap.size + 1)) #[] #[] :: cap).toArray w1 fun _ w2 => (∃ r, w2.heap[w.heap.size + 1]? = some (.loop r) ∧ r.state ≠ .busy ∧ r.pending = none) ∧ Q w2)
    (h2 : ∀ w2 w3, Q w2 → Ext (fun k => k = w.heap.size + 1) w2 w3 → w3.heap.size = w2.heap.size → Run P f N none k E (⟨.collected w.heap.size, #[]⟩ :: D) w3 R) :
    Run P f N none (.code (.rangeFunc fo ps assign body) :: k) E D w R := by
  refine rangeFunc (Q := fun w2 _ => Q w2) hf hG ?_ ?_
  · have hsz : (w.alloc (.deferred (some []))).heap.size = w.heap.size + 1 := by simp
    have h1 := heap_alloc_new (w.alloc (.deferred (some []))) (.loop { state := .ready, pending := none, fn := f, tmps := tmpsOf N E, params := ps, assign, body, defers := w.heap.size })
    rw [hsz] at h1
    have h2 := heap_alloc_old (w.alloc (.deferred (some []))) (.loop { state := .ready, pending := none, fn := f, tmps := tmpsOf N E, params := ps, assign, body, defers := w.heap.size }) (show w.heap.size < _ by rw [hsz]; omega)
    rw [heap_alloc_new w] at h2
    refine (h _ _ (tmpsOf N E) rfl rfl rfl rfl (Rep.of hl hb) rfl rfl rfl h1 h2 ((Keep.alloc w _).trans (Keep.alloc _ _)) (by simp)).mono ?_
    rintro v w2 ⟨⟨r, g1, g2, g3⟩, g4⟩
    exact ⟨r, g1, g2, g3, g4⟩
  · intro w2 r hq hL
    have q := putObj_at (o := .loop { r with state := .exhausted }) (loop_lt hL)
    exact h2 w2 _ hq q.2.1 q.2.2
theorem fold2 (T : Array Value) (p q : Nat) (a b : Value) : (#[p, q].zip [a, b].toArray).foldl (fun tmps (t, a) => tmps.setIfInBounds t a) T = (T.setIfInBounds p a).setIfInBounds q b := by simp
theorem fold1 (T : Array Value) (p : Nat) (a : Value) : (#[p].zip [a].toArray).foldl (fun tmps (t, a) => tmps.setIfInBounds t a) T = T.setIfInBounds p a := by simp
theorem unwT2 {fn : Func} {t1 t2 : Tmp} {v1 v2 : Value} (hf : P.funcs[f]? = some fn) (hr : fn.results = #[.tmp t1, .tmp t2]) (h1 : E.ev (.tmp t1) = v1) (h2 : E.ev (.tmp t2) = v2) (h : R (.ret (.tuple #[v1, v2])) w) : Unw P f N .returning E [] w R :=
  unw_ret hf (fun tmps ht => by rw [results_tmp2 hr, ht.at_ t1, ht.at_ t2, ← h1, ← h2]; rfl) h
theorem unwT1 {fn : Func} {t : Tmp} {v : Value} (hf : P.funcs[f]? = some fn) (hr : fn.results = #[.tmp t]) (hv : E.ev (.tmp t) = v) (h : R (.ret v) w) : Unw P f N .returning E [] w R :=
  unw_ret hf (fun tmps ht => by rw [results_tmp hr, ht.at_ t, ← hv]; rfl) h
theorem collected' {mode : FrameMode} {b : Nat} {ds : List Deferred} (hm : mode ≠ .run) (hb : w.heap[b]? = some (.deferred (some []))) (h : ∀ w', Ext (fun k => k = b) w w' → w'.heap.size = w.heap.size → Unw P f N mode E ds w' R) : Unw P f N mode E (⟨.collected b, #[]⟩ :: ds) w R :=
  unw_collected hm hb (let q := putObj_at (o := .deferred none) (Array.getElem?_eq_some_iff.1 hb).1; h _ q.2.1 q.2.2)
end
end Go.Proofs.Ytgfficbkajcdpaa.X
