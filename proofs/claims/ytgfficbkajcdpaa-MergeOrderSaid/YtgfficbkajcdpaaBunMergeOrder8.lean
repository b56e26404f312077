/- Texts that the proof of MergeOrder stands on, part 8. -/
import Derived.RangeFuncRecord
import Derived.Test.YtgfficbkajcdpaaBunMergeOrder7

namespace Go.Proofs.Ytgfficbkajcdpaa.X
open Go
set_option linter.unusedVariables false
set_option linter.unusedSimpArgs false

/-- A CALL OF THE VALUE yv, wherever it stands. -/
def YC (P : Program) (yv : Value) (args : List Value) (w : World) (R : Value → World → Prop) : Prop :=
  ∀ (dst : Option Tmp) (ty : TypeId) (pos : String) (aft : Array Edge) (g : Option (Nat × Bool)) (x : Operand) (xs : List Operand) (tys : Array TypeId) (ρ : Operand → Value), ρ x = yv → xs.map ρ = args → DoesE P ⟨dst, .call ⟨.value x, xs.toArray, tys⟩, ty, pos, aft, g⟩ ρ w R
theorem YC.mono {P : Program} {yv : Value} {args : List Value} {w : World} {R R' : Value → World → Prop} (h : YC P yv args w R) (hr : ∀ v w', R v w' → R' v w') : YC P yv args w R' :=
  fun dst ty pos aft g x xs tys ρ h1 h2 => (h dst ty pos aft g x xs tys ρ h1 h2).mono hr
theorem YC.of_ret {P : Program} {G : FuncId} {cap args : List Value} {w : World} {R : Value → World → Prop} (hc : Ret P G (args ++ cap).toArray w R) (hG : ∀ args w, (callFunc G args).run P w = .ok (.enter G args) w) : YC P (.func (.func G) #[] cap.toArray) args w R :=
  fun dst ty pos aft g x xs tys ρ h1 h2 => callVE h1 hc hG h2

/-! ### rounds -/
/-- The slots as an array. -/
def tmpsOf (N : Nat) (E : Env) : Array Value := Array.ofFn fun i : _root_.Fin N => E.at_ i.1
theorem Rep.unique {N : Nat} {E : Env} {tmps : Array Value} (h : Rep N E tmps) : tmps = tmpsOf N E := by
  apply Array.ext
  · rw [h.size]; simp [tmpsOf]
  · intro i h1 h2
    have := h.at_ i
    simp only [Array.getD, h1, dif_pos] at this
    simp [tmpsOf, ← this]

theorem lk_ge {N t : Nat} (ht : N ≤ t) (b : Nat → Value) (hb : b t = undef) : ∀ L : List (Nat × Value), (L.all fun p => Nat.blt p.1 N) = true → lk b L t = undef
  | [], _ => hb
  | (d, v) :: L, h => by
    simp only [List.all_cons, Bool.and_eq_true] at h
    have hd := blt_lt h.1
    have : Nat.beq d t = false := by
      cases hq : Nat.beq d t
      · rfl
      · have := Nat.eq_of_beq_eq_true hq; omega
    unfold lk
    rw [this]
    exact lk_ge ht b hb L h.2
theorem Rep.of {N : Nat} {E : Env} (h : (E.l.all fun p => Nat.blt p.1 N) = true) (hb : E.b = fun _ => undef) : Rep N E (tmpsOf N E) := by
  refine ⟨by simp [tmpsOf], fun t => ?_⟩
  by_cases ht : t < N
  · simp [Array.getD, tmpsOf, ht]
  · have h1 : E.at_ t = undef := lk_ge (by omega) E.b (by rw [hb]) E.l h
    rw [h1]
    simp [Array.getD, tmpsOf, ht]
section
variable {P : Program} {f : FuncId} {N : Nat} {k : List Item} {E : Env} {D : List Deferred} {w : World} {R : Out → World → Prop} {l : Nat} {r : Loop}
theorem YC.round {args : List Value} {R : Value → World → Prop} (hL : w.heap[l]? = some (.loop r)) (hs : args.length = r.params.size)
    (hrep : Rep N E ((r.params.zip args.toArray).foldl (fun tmps (t, a) => tmps.setIfInBounds t a) r.tmps))
    (hrun : Run P r.fn N (some l) [.code r.assign, .beginRound, .code r.body] E [] w fun o w' => match o with | .ret v => R v w' | .pan _ => False) : YC P (.func (.yield l) #[] #[]) args w R := by
  intro dst ty pos aft g x xs tys ρ hx hxs
  obtain ⟨o, w', hr, s⟩ := hrun
  cases o with
  | pan ch => exact hr.elim
  | ret v =>
    refine ⟨v, w', ?_, hr⟩
    intro fr cs ops i rest k ht hm ho hw he
    obtain ⟨m, s1, hT⟩ := s .normal (fr :: cs) _ (fun _ => ⟨rfl, by simp⟩) hrep
    have hm' := hT fr cs rfl
    subst hm'
    refine .head (step_lone_go ?_) s1
    have hy := run_yield (P := P) (args := args.toArray) hL (by simpa using hs)
    have hex : (execOp ρ ⟨dst, .call ⟨.value x, xs.toArray, tys⟩, ty, pos, aft, g⟩).run P w = .ok (.round l r.fn ((r.params.zip args.toArray).foldl (fun tmps (t, a) => tmps.setIfInBounds t a) r.tmps) r.assign r.body) w := by
      simp only [execOp, resolve, List.map_toArray, hxs, hx]
      simp [Deferred.ofValue, invoke, hy]
    rw [stepG_op' ht hm ho hw rfl, execOp_eq _ rfl he]
    simp only [stepG.apply, Sem.runT_eq, hex, GStep.bare_after, if_true, ht]
    rfl
theorem beginRound (hL : w.heap[l]? = some (.loop r)) (hr : r.state = .ready) (h : Run P f N (some l) k E D (w.putObj l (.loop { r with state := .busy })) R) : Run P f N (some l) (.beginRound :: k) E D w R := by
  obtain ⟨o, w', hq, s⟩ := h
  refine ⟨o, w', hq, fun kind cs tmps hc ht => ?_⟩
  obtain ⟨m, s1, hT⟩ := s kind cs tmps hc ht
  refine ⟨m, .head (step_lone_go ?_) s1, hT⟩
  have hb := run_beginRound (P := P) hL hr
  simp [stepG, stepG.exec, stepG.apply, hb, Frame.finish, Option.elim]
theorem endRound (hL : w.heap[l]? = some (.loop r)) (h : R (.ret (.bool true)) (w.putObj l (.loop { r with state := .ready, pending := none }))) : Run P f N (some l) [] E D w R := by
  refine ⟨_, _, h, fun kind cs tmps hc ht => ?_⟩
  obtain ⟨rfl, hne⟩ := hc (by simp)
  cases cs with
  | nil => exact absurd rfl hne
  | cons c cs =>
    refine ⟨lone (c.finish (.bool true)) cs (w.putObj l (.loop { r with state := .ready, pending := none })), .one (step_lone_go ?_), fun c' cs' e => ?_⟩
    · have hb := run_endRound (P := P) none hL
      simp [stepG, stepG.exec, hb, doReturn]
    · cases e; rfl
/-- THE LOOP: a call of the function, then what stands behind. -/
theorem rangeFunc {fo : Operand} {ps : Array Tmp} {assign body : Code} {gf : FuncId} {cap : List Value} {Q : World → Loop → Prop} (hf : E.ev fo = .func (.func gf) #[] cap.toArray) (hG : ∀ args w, (callFunc gf args).run P w = .ok (.enter gf args) w)
    (h : Ret P gf (.func (.yield (w.heap.size + 1)) #[] #[] :: cap).toArray ((w.alloc (.deferred (some []))).alloc (.loop { state := .ready, pending := none, fn := f, tmps := tmpsOf N E, params := ps, assign, body, defers := w.heap.size }))
      fun _ w2 => ∃ r, w2.heap[w.heap.size + 1]? = some (.loop r) ∧ r.state ≠ .busy ∧ r.pending = none ∧ Q w2 r)
    (h2 : ∀ w2 r, Q w2 r → w2.heap[w.heap.size + 1]? = some (.loop r) → Run P f N none k E (⟨.collected w.heap.size, #[]⟩ :: D) (w2.putObj (w.heap.size + 1) (.loop { r with state := .exhausted })) R) :
    Run P f N none (.code (.rangeFunc fo ps assign body) :: k) E D w R := by
  obtain ⟨v, w2, ⟨r, g1, g2, g3, g4⟩, s1⟩ := h.call
  obtain ⟨o, w3, hq, s2⟩ := h2 w2 r g4 g1
  refine ⟨o, w3, hq, fun kind cs tmps hc ht => ?_⟩
  have hu := ht.unique
  obtain ⟨m, s3, hT⟩ := s2 kind cs tmps hc ht
  obtain ⟨fr', s4, hm', hd, hk, hf', fn, hfn, hres⟩ := s1 .normal (Fm f none kind tmps (.inRangeFunc (w.heap.size + 1) :: k) (⟨.collected w.heap.size, #[]⟩ :: D) .run :: cs)
  have st2 : step P (lone fr' (Fm f none kind tmps (.inRangeFunc (w.heap.size + 1) :: k) (⟨.collected w.heap.size, #[]⟩ :: D) .run :: cs) w2) = .next (lone (Fm f none kind tmps (.endRangeFunc (w.heap.size + 1) :: k) (⟨.collected w.heap.size, #[]⟩ :: D) .run) cs w2) :=
    step_lone_go (by simp [stepG, unwind, doReturn, hm', hd, hk, hf', hfn, hres, Frame.finish])
  have st3 : step P (lone (Fm f none kind tmps (.endRangeFunc (w.heap.size + 1) :: k) (⟨.collected w.heap.size, #[]⟩ :: D) .run) cs w2) = .next (lone (Fm f none kind tmps k (⟨.collected w.heap.size, #[]⟩ :: D) .run) cs (w2.putObj (w.heap.size + 1) (.loop { r with state := .exhausted }))) :=
    step_lone_go (by
      have he := run_endLoop (P := P) g1 g2
      simp [stepG, stepG.exec, he, g3])
  refine ⟨m, .head (step_lone_go ?_) (s4.trans (.head st2 (.head st3 s3))), hT⟩
  have hev : (Fm f none kind tmps (.inRangeFunc (w.heap.size + 1) :: k) (⟨.collected w.heap.size, #[]⟩ :: D) .run).eval fo = .func (.func gf) #[] cap.toArray := by rw [frame_eval, ht.eval, hf]
  rw [← hu]
  have he := run_enterLoop_outer (P := P) (w := w) f tmps ps assign body
  have hconst : ∀ (fr : Frame) (v : Value), fr.eval (.const v) = v := fun _ _ => rfl
  simp [stepG, stepG.exec, he, stepG.apply, resolve, hev, hconst, Deferred.ofValue, invoke, hG]
theorem unw_collected {mode : FrameMode} {b : Nat} {ds : List Deferred} (hm : mode ≠ .run) (hb : w.heap[b]? = some (.deferred (some []))) (h : Unw P f N mode E ds (w.putObj b (.deferred none)) R) : Unw P f N mode E (⟨.collected b, #[]⟩ :: ds) w R := by
  obtain ⟨o, w', r, s⟩ := h
  refine ⟨o, w', r, fun kind cs tmps todo ht => ?_⟩
  obtain ⟨fr, s2, hl⟩ := s kind cs tmps todo ht
  refine ⟨fr, .head (step_lone_go ?_) s2, hl⟩
  have ht := run_takeDeferred (P := P) hb
  cases mode with
  | run => exact absurd rfl hm
  | returning => simp [stepG, unwind, ht]
  | panicking ch => simp [stepG, unwind, ht]
theorem putObj_at {w : World} {l : Nat} {o : Obj} (h : l < w.heap.size) : (w.putObj l o).heap[l]? = some o ∧ Ext (fun k => k = l) w (w.putObj l o) ∧ (w.putObj l o).heap.size = w.heap.size :=
  ⟨World.putObj_heap_same h, ⟨rfl, rfl, rfl, by simp [World.putObj], fun k _ hk => World.putObj_heap_other (fun e => hk e)⟩, by simp [World.putObj]⟩
theorem loop_lt {w : World} {l : Nat} {r : Loop} (h : w.heap[l]? = some (.loop r)) : l < w.heap.size := (Array.getElem?_eq_some_iff.1 h).1
theorem beginRound' (hL : w.heap[l]? = some (.loop r)) (hr : r.state = .ready) (h : ∀ w', w'.heap[l]? = some (.loop { r with state := .busy }) → Ext (fun k => k = l) w w' → w'.heap.size = w.heap.size → Run P f N (some l) k E D w' R) : Run P f N (some l) (.beginRound :: k) E D w R :=
  beginRound hL hr (let q := putObj_at (o := .loop { r with state := .busy }) (loop_lt hL); h _ q.1 q.2.1 q.2.2)
theorem endRound' (hL : w.heap[l]? = some (.loop { r with state := .busy })) (h1 : r.state = .ready) (h2 : r.pending = none) (h : ∀ w', w'.heap[l]? = some (.loop r) → Ext (fun k => k = l) w w' → w'.heap.size = w.heap.size → R (.ret (.bool true)) w') : Run P f N (some l) [] E D w R := by
  refine endRound hL ?_
  have e : ({ ({ r with state := .busy } : Loop) with state := .ready, pending := none } : Loop) = r := by cases r; simp_all
  rw [e]
  have q := putObj_at (o := .loop r) (loop_lt hL)
  exact h _ q.1 q.2.1 q.2.2
theorem rangeFunc' {fo : Operand} {ps : Array Tmp} {assign body : Code} {gf : FuncId} {cap : List Value} {Q : World → Prop} (hf : E.ev fo = .func (.func gf) #[] cap.toArray) (hG : ∀ args w, (callFunc gf args).run P w = .ok (.enter gf args) w) (hl : (E.l.all fun p => Nat.blt p.1 N) = true) (hb : E.b = fun _ => undef)
    (h : ∀ (rec : Loop) (w1 : World) (T : Array Value), rec.state = .ready → rec.pending = none → rec.fn = f → rec.tmps = T → Rep N E T → rec.params = ps → rec.assign = assign → rec.body = body → w1.heap[w.heap.size + 1]? = some (.loop rec) → w1.heap[w.heap.size]? = some (.deferred (some [])) → Keep w w1 → w1.heap.size = w.heap.size + 2 →
      Ret P gf (.func (.yield (w.heap.size + 1)) #[] #[] :: cap).toArray w1 fun _ w2 => (∃ r, w2.heap[w.heap.size + 1]? = some (.loop r) ∧ r.state ≠ .busy ∧ r.pending = none) ∧ Q w2)
    (h2 : ∀ w2 w3, Q w2 → Ext (fun k => k = w.heap.size + 1) w2 w3 → w3.heap.size = w2.heap.size → Run P f N none k E (⟨.collected w.heap.size, #[]⟩ :: D) w3 R) :
    Run P f N none (.code (.rangeFunc fo ps assign body) :: k) E D w R := by
  refine rangeFunc (Q := fun w2 _ => Q w2) hf hG ?_ ?_
  · have hsz : (w.alloc (.deferred (some []))).heap.size = w.heap.size + 1 := by simp
    have h1 := heap_alloc_new (w.alloc (.deferred (some []))) (.loop { state := .ready, pending := none, fn := f, tmps := tmpsOf N E, params := ps, assign, body, defers := w.heap.size })
    rw [hsz] at h1
    have h2 := heap_alloc_old (w.alloc (.deferred (some []))) (.loop { state := .ready, pending := none, fn := f, tmps := tmpsOf N E, params := ps, assign, body, defers := w.heap.size }) (show w.heap.size < _ by rw [hsz]; omega)
    rw [heap_alloc_new w] at h2
    refine (h _ _ (tmpsOf N E) rfl rfl rfl rfl (Rep.of hl hb) rfl rfl rfl h1 h2 ((Keep.alloc w _).trans (Keep.alloc _ _)) (by simp)).mono ?_
    rintro v w2 ⟨⟨r, g1, g2, g3⟩, g4⟩
    exact ⟨r, g1, g2, g3, g4⟩
  · intro w2 r hq hL
    have q := putObj_at (o := .loop { r with state := .exhausted }) (loop_lt hL)
    exact h2 w2 _ hq q.2.1 q.2.2
theorem fold2 (T : Array Value) (p q : Nat) (a b : Value) : (#[p, q].zip [a, b].toArray).foldl (fun tmps (t, a) => tmps.setIfInBounds t a) T = (T.setIfInBounds p a).setIfInBounds q b := by simp
theorem fold1 (T : Array Value) (p : Nat) (a : Value) : (#[p].zip [a].toArray).foldl (fun tmps (t, a) => tmps.setIfInBounds t a) T = T.setIfInBounds p a := by simp
theorem unwT2 {fn : Func} {t1 t2 : Tmp} {v1 v2 : Value} (hf : P.funcs[f]? = some fn) (hr : fn.results = #[.tmp t1, .tmp t2]) (h1 : E.ev (.tmp t1) = v1) (h2 : E.ev (.tmp t2) = v2) (h : R (.ret (.tuple #[v1, v2])) w) : Unw P f N .returning E [] w R :=
  unw_ret hf (fun tmps ht => by rw [results_tmp2 hr, ht.at_ t1, ht.at_ t2, ← h1, ← h2]; rfl) h
theorem unwT1 {fn : Func} {t : Tmp} {v : Value} (hf : P.funcs[f]? = some fn) (hr : fn.results = #[.tmp t]) (hv : E.ev (.tmp t) = v) (h : R (.ret v) w) : Unw P f N .returning E [] w R :=
  unw_ret hf (fun tmps ht => by rw [results_tmp hr, ht.at_ t, ← hv]; rfl) h
theorem collected' {mode : FrameMode} {b : Nat} {ds : List Deferred} (hm : mode ≠ .run) (hb : w.heap[b]? = some (.deferred (some []))) (h : ∀ w', Ext (fun k => k = b) w w' → w'.heap.size = w.heap.size → Unw P f N mode E ds w' R) : Unw P f N mode E (⟨.collected b, #[]⟩ :: ds) w R :=
  unw_collected hm hb (let q := putObj_at (o := .deferred none) (Array.getElem?_eq_some_iff.1 hb).1; h _ q.2.1 q.2.2)
end
end Go.Proofs.Ytgfficbkajcdpaa.X

namespace Go.Proofs.Ytgfficbkajcdpaa.X
open Go
set_option linter.unusedVariables false
set_option linter.unusedSimpArgs false

/-- What lies below B and in T stands. -/
def Agree (T : Nat → Prop) (B : Nat) (w w' : World) : Prop := Ext (fun k => B ≤ k ∧ ¬ T k) w w'
theorem Agree.refl (T : Nat → Prop) (B : Nat) (w : World) : Agree T B w w := Ext.refl _ w
theorem Agree.trans {T : Nat → Prop} {B : Nat} {a b c : World} (h : Agree T B a b) (h' : Agree T B b c) : Agree T B a c := Ext.trans h h' (fun _ _ x => x) (fun _ _ x => x)
theorem Agree.of_ext {T U : Nat → Prop} {B : Nat} {w w' : World} (h : Ext U w w') (hU : ∀ k, k < w.heap.size → U k → B ≤ k ∧ ¬ T k) : Agree T B w w' := h.mono hU
theorem Agree.of_keep {T : Nat → Prop} {B : Nat} {w w' : World} (h : Keep w w') : Agree T B w w' := h.mono fun _ _ h => h.elim
theorem Agree.sub {T U : Nat → Prop} {B : Nat} {w w' : World} (h : Agree T B w w') (hU : ∀ k, U k → T k) : Agree U B w w' := Ext.mono h fun k _ hk => ⟨hk.1, fun hu => hk.2 (hU k hu)⟩
theorem Agree.blk {T : Nat → Prop} {B : Nat} {w w' : World} (h : Agree T B w w') {b : Nat} {cs : List Value} {e : TypeId} (hb : Blk w b cs e) (hT : T b) : Blk w' b cs e := hb.ext h (fun x => x.2 hT)
theorem Agree.size {T : Nat → Prop} {B : Nat} {w w' : World} (h : Agree T B w w') : w.heap.size ≤ w'.heap.size := Ext.size h

section
variable {α : Type} (P : Program) (ev : α → Value) (z : α)
def hdV (xs : List α) : Value := .tuple #[ev (xs.headD z), .bool (!xs.isEmpty)]
/-- p, asked by nx, tells xs. -/
def Cur (nx : FuncId) (B : Nat) (T : Nat → Prop) (p : Value) (xs : List α) (w : World) : Prop :=
  ∃ I : List α → World → Prop, I xs w ∧ (∀ xs w w', I xs w → Agree T B w w' → I xs w') ∧ (∀ xs w, I xs w → Ret P nx #[p] w fun r w' => r = hdV ev z xs ∧ Ext T w w' ∧ I xs.tail w')
/-- fv, called, tells xs (till it tells nothing). -/
def Stp (B : Nat) (T : Nat → Prop) (fv : Value) (xs : List α) (w : World) : Prop :=
  ∃ I : List α → World → Prop, I xs w ∧ (∀ xs w w', I xs w → Agree T B w w' → I xs w') ∧ (∀ xs w, I xs w → YC P fv [] w fun r w' => r = hdV ev z xs ∧ Ext T w w' ∧ (xs ≠ [] → I xs.tail w'))
end
section
variable {α : Type} {P : Program} {ev : α → Value} {z : α} {nx B : Nat} {T : Nat → Prop} {p fv : Value} {xs : List α} {w w' : World}
theorem Cur.agree (h : Cur P ev z nx B T p xs w) (ha : Agree T B w w') : Cur P ev z nx B T p xs w' := by
  obtain ⟨I, h1, h2, h3⟩ := h
  exact ⟨I, h2 _ _ _ h1 ha, h2, h3⟩
theorem Cur.next (h : Cur P ev z nx B T p xs w) : Ret P nx #[p] w fun r w' => r = hdV ev z xs ∧ Ext T w w' ∧ Cur P ev z nx B T p xs.tail w' := by
  obtain ⟨I, h1, h2, h3⟩ := h
  exact (h3 _ _ h1).mono fun r w' ⟨a, b, c⟩ => ⟨a, b, I, c, h2, h3⟩
theorem Cur.ext (h : Cur P ev z nx B T p xs w) {U : Nat → Prop} (x : Ext U w w') (hU : ∀ k, k < w.heap.size → U k → B ≤ k ∧ ¬ T k) : Cur P ev z nx B T p xs w' := h.agree (Agree.of_ext x hU)
theorem Cur.keep (h : Cur P ev z nx B T p xs w) (x : Keep w w') : Cur P ev z nx B T p xs w' := h.agree (Agree.of_keep x)
theorem Stp.agree (h : Stp P ev z B T fv xs w) (ha : Agree T B w w') : Stp P ev z B T fv xs w' := by
  obtain ⟨I, h1, h2, h3⟩ := h
  exact ⟨I, h2 _ _ _ h1 ha, h2, h3⟩
theorem Stp.call (h : Stp P ev z B T fv xs w) : YC P fv [] w fun r w' => r = hdV ev z xs ∧ Ext T w w' ∧ (xs ≠ [] → Stp P ev z B T fv xs.tail w') := by
  obtain ⟨I, h1, h2, h3⟩ := h
  exact (h3 _ _ h1).mono fun r w' ⟨a, b, c⟩ => ⟨a, b, fun hn => ⟨I, c hn, h2, h3⟩⟩
theorem Cur.wide (h : Cur P ev z nx B T p xs w) {U : Nat → Prop} (hU : ∀ k, T k → U k) : Cur P ev z nx B U p xs w := by
  obtain ⟨I, h1, h2, h3⟩ := h
  exact ⟨I, h1, fun xs w w' hi ha => h2 xs w w' hi (ha.sub hU), fun xs w hi => (h3 xs w hi).mono fun r w' ⟨a, b, c⟩ => ⟨a, b.mono fun k _ hk => hU k hk, c⟩⟩
theorem Stp.wide (h : Stp P ev z B T fv xs w) {U : Nat → Prop} (hU : ∀ k, T k → U k) : Stp P ev z B U fv xs w := by
  obtain ⟨I, h1, h2, h3⟩ := h
  exact ⟨I, h1, fun xs w w' hi ha => h2 xs w w' hi (ha.sub hU), fun xs w hi => (h3 xs w hi).mono fun r w' ⟨a, b, c⟩ => ⟨a, b.mono fun k _ hk => hU k hk, c⟩⟩
/-- The cursor of a step: its struct in block bm. over: what it is when it told nothing. -/
theorem Cur.made {bm : Nat} {e : TypeId} (h : Stp P ev z B T fv xs w) (hb : Blk w bm [fv, .bool false] e) (hBm : B ≤ bm) (hT : ¬ T bm) (hTb : ∀ k, T k → k < w.heap.size)
    (hover : ∀ w, Blk w bm [fv, .bool true] e → Ret P nx #[.pointer (some ⟨bm, 0, none⟩)] w fun r w' => r = hdV ev z [] ∧ Keep w w')
    (hstep : ∀ (xs : List α) (w : World) (R : World → Prop), (∀ k, T k → k < w.heap.size) → Blk w bm [fv, .bool false] e → (∀ wa, Keep w wa → YC P fv [] wa fun r wc => r = hdV ev z xs ∧ Ext T wa wc ∧ R wc) →
      Ret P nx #[.pointer (some ⟨bm, 0, none⟩)] w fun r w' => r = hdV ev z xs ∧ (∃ wc, R wc ∧ Ext T w wc ∧ Ext (fun k => k = bm ∨ w.heap.size ≤ k) wc w') ∧ Blk w' bm [fv, .bool xs.isEmpty] e) :
    Cur P ev z nx B (fun k => T k ∨ k = bm) (.pointer (some ⟨bm, 0, none⟩)) xs w := by
  refine ⟨fun xs w => ((Stp P ev z B T fv xs w ∧ Blk w bm [fv, .bool false] e) ∨ (xs = [] ∧ Blk w bm [fv, .bool true] e)) ∧ ∀ k, T k → k < w.heap.size, ⟨.inl ⟨h, hb⟩, hTb⟩, ?_, ?_⟩
  · rintro xs w w' ⟨hi, hTb⟩ ha
    have ha1 := ha.sub (U := T) fun k hk => .inl hk
    have hz := ha.size
    refine ⟨?_, fun k hk => by have := hTb k hk; omega⟩
    rcases hi with ⟨h1, h2⟩ | ⟨h1, h2⟩
    · exact .inl ⟨h1.agree ha1, ha.blk h2 (.inr rfl)⟩
    · exact .inr ⟨h1, ha.blk h2 (.inr rfl)⟩
  · rintro xs w ⟨hi, hTb⟩
    rcases hi with ⟨h1, h2⟩ | ⟨rfl, h2⟩
    · have hlt := h2.lt
      refine (hstep xs w (fun wc => xs ≠ [] → Stp P ev z B T fv xs.tail wc) hTb h2 fun wa ka => (h1.agree (Agree.of_keep ka)).call).mono ?_
      rintro r w' ⟨rfl, ⟨wc, hR, hx1, hx2⟩, hB'⟩
      have hz := Nat.le_trans hx1.size hx2.size
      refine ⟨rfl, Ext.trans hx1 hx2 (fun _ _ x => .inl x) (fun k hk x => x.elim .inr fun x => by omega), ?_, fun k hk => by have := hTb k hk; omega⟩
      cases xs with
      | nil => exact .inr ⟨rfl, hB'⟩
      | cons x xs => exact .inl ⟨(hR (by simp)).agree (Agree.of_ext hx2 fun k _ hk => hk.elim (fun e => by rw [e]; exact ⟨hBm, hT⟩) (fun e => ⟨by omega, fun ht => by have := hTb k ht; omega⟩)), hB'⟩
    · refine (hover w h2).mono ?_
      rintro r w' ⟨rfl, hk⟩
      have hz := hk.size
      exact ⟨rfl, hk.mono fun _ _ h => h.elim, .inr ⟨rfl, h2.keep hk⟩, fun k ht => by have := hTb k ht; omega⟩
/-- A cursor that tells nothing. -/
theorem Cur.none {bm : Nat} {e : TypeId} (hb : Blk w bm [fv, .bool true] e)
    (hover : ∀ w, Blk w bm [fv, .bool true] e → Ret P nx #[.pointer (some ⟨bm, 0, none⟩)] w fun r w' => r = hdV ev z [] ∧ Keep w w') :
    Cur P ev z nx B (fun k => k = bm) (.pointer (some ⟨bm, 0, none⟩)) [] w := by
  refine ⟨fun xs w => xs = [] ∧ Blk w bm [fv, .bool true] e, ⟨rfl, hb⟩, fun xs w w' h ha => ⟨h.1, ha.blk h.2 rfl⟩, ?_⟩
  rintro xs w ⟨rfl, h2⟩
  exact (hover w h2).mono fun r w' ⟨h1, hk⟩ => ⟨h1, hk.mono fun _ _ h => h.elim, rfl, h2.keep hk⟩
end

/-! ### elements: things (a byte that has a sign, and a number) -/
abbrev TH := Int × Int
abbrev evT (x : TH) : Value := .agg #[.int .i8 x.1, .int .i64 x.2]
def KTh : Kd TH := Kd.plain 2 (fun x => [.int .i8 x.1, .int .i64 x.2]) (fun _ => True) (fun _ => rfl) (fun _ u hu => by simp at hu; rcases hu with rfl | rfl <;> rfl)
theorem KTh_flat : Flat KTh := fun h => h
theorem KTh_R (lo hi : Nat) (w : World) (x : TH) : KTh.R lo hi w x [.int .i8 x.1, .int .i64 x.2] := ⟨rfl, trivial⟩
theorem repsT {w : World} (x : TH) : RepsV KTh w [x] [evT x] := ⟨⟨_, rfl, KTh_R 0 0 w x⟩, trivial⟩
section
variable {P : Program} {ρ : Operand → Value} {w : World} {dst : Option Tmp} {ty : TypeId} {pos : String} {aft : Array Edge} {g : Option (Nat × Bool)}
/-- Several cells stored somewhere in a block that is known whole. -/
theorem storeAtE {T : TypeId} {a x : Operand} {b i n : Nat} {cs vs : List Value} {e : TypeId} (hs : ∀ w, (sizeOf T).run P w = .ok n w) (hB : Blk w b cs e) (ha : ρ a = .pointer (some ⟨b, i, none⟩)) (hx : ρ x = .agg vs.toArray) (hn : vs.length = n) (hl : Nat.ble (i + n) cs.length = true) (h1 : ∀ v, v ∈ vs → v.oneCell' = true) :
    DoesE P ⟨none, .store T a x, ty, pos, aft, g⟩ ρ w fun _ w' => Blk w' b (cs.take i ++ vs ++ cs.drop (i + vs.length)) e ∧ Ext (fun k => k = b) w w' ∧ w'.heap.size = w.heap.size := by
  have hl := Nat.le_of_ble_eq_true hl
  have hst := run_storeCells_at P b i e vs 0 cs.toArray w hB (by simp; omega) h1
  simp only [Nat.add_zero] at hst
  have hB' : Blk (w.setRow b (cs.take i ++ vs ++ cs.drop (i + vs.length)).toArray) b (cs.take i ++ vs ++ cs.drop (i + vs.length)) e := by
    unfold Blk at hB ⊢
    simp only [World.setRow, Array.getElem?_modify, if_true, hB, Option.map_some]
  have hext : Ext (fun k => k = b) w (w.setRow b (cs.take i ++ vs ++ cs.drop (i + vs.length)).toArray) := ⟨rfl, rfl, rfl, by simp [World.setRow], fun k _ hk => by simp only [World.setRow, Array.getElem?_modify]; rw [if_neg (fun h => hk h.symm)]⟩
  refine (does_skip (w' := w.setRow b (cs.take i ++ vs ++ cs.drop (i + vs.length)).toArray) rfl ?_).e ⟨hB', hext, by simp [World.setRow]⟩
  simp only [execOp, ha, hx, Instr.storeAt, Instr.sureAddr, storeVar, Value.cells]
  simp [hs, hn, hst]
end
section
variable {P : Program} {f : FuncId} {N : Nat} {E : Env} {w : World} {R : Out → World → Prop}
theorem unwR2 {fn : Func} {r1 r2 : ResultVar} {v1 v2 : Value} (hf : P.funcs[f]? = some fn) (hr : fn.results = #[r1, r2]) (h1 : ResOk P E w r1 v1) (h2 : ResOk P E w r2 v2) (h : R (.ret (.tuple #[v1, v2])) w) : Unw P f N .returning E [] w R :=
  unw_ret hf (fun tmps ht => by
    rw [results_sem, hr]
    simp [h1.run ht, h2.run ht]) h
end
section
variable {P : Program} {ρ : Operand → Value} {w : World} {dst : Option Tmp} {ty : TypeId} {pos : String} {aft : Array Edge} {g : Option (Nat × Bool)}
theorem neIf0 {T T' : TypeId} {x : Operand} {ms : Array (String × TypeId)} (hT : P.underlying T = some (.interface ms)) (hx : ρ x = .nilIface) (hy : ρ (.const .nilIface) = .nilIface) : Does P ⟨dst, .binOp .neq T x (.const .nilIface) T', ty, pos, aft, g⟩ ρ w (.bool false) w :=
  does_run rfl (by
    have h1 := run_equal_nil_nil (P := P) w T (meths hT)
    simp only [execOp, hx, hy, binOp, eqGuard]
    simp [h1])
theorem neIf1 {T T' U : TypeId} {x : Operand} {v : Value} {ms : Array (String × TypeId)} (hT : P.underlying T = some (.interface ms)) (hx : ρ x = .iface U v) (hy : ρ (.const .nilIface) = .nilIface) : Does P ⟨dst, .binOp .neq T x (.const .nilIface) T', ty, pos, aft, g⟩ ρ w (.bool true) w :=
  does_run rfl (by
    have h1 := run_equal_held_nil (P := P) w T U v (meths hT)
    simp only [execOp, hx, hy, binOp, eqGuard]
    simp [h1])
theorem run_equalIn_fn1 (w : World) (d : Nat) {T : TypeId} {fn : Fn} {bs cs : Array Value} {ps rs : Array TypeId} {v : Bool} (hT : P.underlying T = some (.func ps rs v)) : (Op.equalIn (d + 1) T (.func fn bs cs) .nilFunc).run P w = .ok false w := by
  simp [Op.equalIn, run_underlying hT]
theorem run_equalIn_fn0 (w : World) (d : Nat) {T : TypeId} {ps rs : Array TypeId} {v : Bool} (hT : P.underlying T = some (.func ps rs v)) : (Op.equalIn (d + 1) T .nilFunc .nilFunc).run P w = .ok true w := by
  simp [Op.equalIn, run_underlying hT]
theorem eqFn1 {T T' : TypeId} {x : Operand} {fn : Fn} {bs cs : Array Value} {ps rs : Array TypeId} {v : Bool} (hT : P.underlying T = some (.func ps rs v)) (hx : ρ x = .func fn bs cs) (hy : ρ (.const .nilFunc) = .nilFunc) : Does P ⟨dst, .binOp .eql T x (.const .nilFunc) T', ty, pos, aft, g⟩ ρ w (.bool false) w :=
  does_run rfl (by
    have h1 : (Op.equal T (.func fn bs cs) .nilFunc).run P w = .ok false w := run_equalIn_fn1 w 9999 hT
    simp only [execOp, hx, hy, binOp, eqGuard]
    simp [h1])
theorem eqFn0 {T T' : TypeId} {x : Operand} {ps rs : Array TypeId} {v : Bool} (hT : P.underlying T = some (.func ps rs v)) (hx : ρ x = .nilFunc) (hy : ρ (.const .nilFunc) = .nilFunc) : Does P ⟨dst, .binOp .eql T x (.const .nilFunc) T', ty, pos, aft, g⟩ ρ w (.bool true) w :=
  does_run rfl (by
    have h1 : (Op.equal T .nilFunc .nilFunc).run P w = .ok true w := run_equalIn_fn0 w 9999 hT
    simp only [execOp, hx, hy, binOp, eqGuard]
    simp [h1])
end
/-- One cell. -/
theorem reps_1 {w : World} {v : Value} (h : v.oneCell' = true) (hc : v.cells = #[v]) : RepsV KR1 w [v] [v] := ⟨⟨[v], by rw [hc], rfl, h⟩, trivial⟩
theorem Mine.block {α : Type} {K : Kd α} (hF : Flat K) {e : TypeId} {S : Nat → Prop} {w : World} {v : Value} {xs : List α} (h : Mine K e S 0 0 w v xs) (hS : S w.heap.size) : ∃ b A c, S b ∧ b ≤ w.heap.size ∧ v = .slice A xs.length c ∧ xs.length ≤ c ∧ Sl K b (b + 1) w A xs.length xs := by
  obtain ⟨b, ho, hb⟩ := h
  have hlt : ∀ k, b = some k → k < w.heap.size := fun k hk => ho.lt k hk
  obtain ⟨b0, h0, h1, h2⟩ : ∃ b0, S b0 ∧ b0 ≤ w.heap.size ∧ ∀ k, b = some k → k = b0 := by
    cases b with
    | none => exact ⟨w.heap.size, hS, Nat.le_refl _, fun k h => by cases h⟩
    | some b => exact ⟨b, hb b rfl, Nat.le_of_lt (hlt b rfl), fun k h => by cases h; rfl⟩
  obtain ⟨A, c, h3, h4, h5⟩ := (ho.flat hF (lo' := b0) (hi' := b0 + 1)).sl (fun k hk => by have := h2 k hk; omega)
  exact ⟨b0, A, c, h0, h1, h3, h4, h5⟩
/-- 'c.Next()', c an interface value. -/
theorem invokeE {P : Program} {ρ : Operand → Value} {w : World} {dst : Option Tmp} {ty : TypeId} {pos : String} {aft : Array Edge} {g : Option (Nat × Bool)} {x : Operand} {name : String} {TY : TypeId} {G : FuncId} {p : Value} {tys : Array TypeId} {R' : Value → World → Prop} (hx : ρ x = .iface TY p)
    (hm : ∀ w, (method (P.types.size + Made.depth) TY p name).run P w = .ok (G, p) w) (hc : Ret P G #[p] w R') (hG : ∀ args w, (callFunc G args).run P w = .ok (.enter G args) w) :
    DoesE P ⟨dst, .call ⟨.invoke x name, #[], tys⟩, ty, pos, aft, g⟩ ρ w R' := by
  obtain ⟨v, w', hr, hs⟩ := hc.call
  refine (does_enter (g := G) (args := #[p]) rfl ?_ hs).e hr
  simp [execOp, resolve, invoke, hx, callMethod, hm, hG]
end Go.Proofs.Ytgfficbkajcdpaa.X
