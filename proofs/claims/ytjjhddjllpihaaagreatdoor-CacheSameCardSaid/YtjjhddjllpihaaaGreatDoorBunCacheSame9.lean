/- Texts that the proof of CacheSame stands on, part 9. -/
import Derived.RangeFuncRecord
import Derived.Test.YtjjhddjllpihaaaGreatDoorBunCacheSame8
set_option maxHeartbeats 4000000
set_option maxRecDepth 100000
set_option linter.unusedSimpArgs false
set_option linter.unusedVariables false
namespace Go.Proofs.YtjjhddjllpihaaaGreatDoor.X
open Go
def YC (P : Program) (yv : Value) (args : List Value) (w : World) (R : Value → World → Prop) : Prop :=
  ∀ (dst : Option Tmp) (ty : TypeId) (pos : String) (aft : Array Edge) (g : Option (Nat × Bool)) (x : Operand) (xs : List Operand) (tys : Array TypeId) (ρ : Operand → Value), ρ x = yv → xs.map ρ = args → DoesE P ⟨dst, .call ⟨.value x, xs.toArray, tys⟩, ty, pos, aft, g⟩ ρ w R
theorem YC.mono {P : Program} {yv : Value} {args : List Value} {w : World} {R R' : Value → World → Prop} (h : YC P yv args w R) (hr : ∀ v w', R v w' → R' v w') : YC P yv args w R' :=
  fun dst ty pos aft g x xs tys ρ h1 h2 => (h dst ty pos aft g x xs tys ρ h1 h2).mono hr
theorem YC.of_ret {P : Program} {G : FuncId} {cap args : List Value} {w : World} {R : Value → World → Prop} (hc : Ret P G (args ++ cap).toArray w R) (hG : ∀ args w, (callFunc G args).run P w = .ok (.enter G args) w) : YC P (.func (.func G) #[] cap.toArray) args w R :=
  fun dst ty pos aft g x xs tys ρ h1 h2 => callVE h1 hc hG h2
/-! ### rounds -/
def tmpsOf (N : Nat) (E : Env) : Array Value := Array.ofFn fun i : _root_.Fin N => E.at_ i.1
theorem Rep.unique {N : Nat} {E : Env} {tmps : Array Value} (h : Rep N E tmps) : tmps = tmpsOf N E := by
  apply Array.ext
  · rw [h.size]; simp [tmpsOf]
  · intro i h1 h2
    have := h.at_ i
    simp only [Array.getD, h1, dif_pos] at this
    simp [tmpsOf, ← this]
theorem lk_ge {N t : Nat} (ht : N ≤ t) (b : Nat → Value) (hb : b t = undef) : ∀ L : List (Nat × Value), (L.all fun p => Nat.blt p.1 N) = true → lk b L t = undef
  | [], _ => hb
  | (d, v) :: L, h => by
    simp only [List.all_cons, Bool.and_eq_true] at h
    have hd := blt_lt h.1
    have : Nat.beq d t = false := by
      cases hq : Nat.beq d t
      · rfl
      · have := Nat.eq_of_beq_eq_true hq; omega
    unfold lk
    rw [this]
    exact lk_ge ht b hb L h.2
theorem Rep.of {N : Nat} {E : Env} (h : (E.l.all fun p => Nat.blt p.1 N) = true) (hb : E.b = fun _ => undef) : Rep N E (tmpsOf N E) := by
  refine ⟨by simp [tmpsOf], fun t => ?_⟩
  by_cases ht : t < N
  · simp [Array.getD, tmpsOf, ht]
  · have h1 : E.at_ t = undef := lk_ge Zz E.b (by rw [hb]) E.l h
    rw [h1]
    simp [Array.getD, tmpsOf, ht]
section
variable {P : Program} {f : FuncId} {N : Nat} {k : List Item} {E : Env} {D : List Deferred} {w : World} {R : Out → World → Prop} {l : Nat} {r : Loop}
theorem YC.round {args : List Value} {R : Value → World → Prop} (hL : w.heap[l]? = some (.loop r)) (hs : args.length = r.params.size)
    (hrep : Rep N E ((r.params.zip args.toArray).foldl (fun tmps (t, a) => tmps.setIfInBounds t a) r.tmps))
    (hrun : Run P r.fn N (some l) [.code r.assign, .beginRound, .code r.body] E [] w fun o w' => match o with | .ret v => R v w' | .pan _ => False) : YC P (.func (.yield l) #[] #[]) args w R := by
  intro dst ty pos aft g x xs tys ρ hx hxs
  intro fr cs ops i rest k ht hm ho hw he
  obtain ⟨o, w', hr, m, s1, hT⟩ := hrun .normal (fr :: cs) _ (fun _ => ⟨rfl, by simp⟩) hrep
  cases o with
  | pan ch => exact hr.elim
  | ret v =>
    have hm' := hT fr cs rfl
    subst hm'
    refine ⟨v, w', hr, .head (step_lone_go ?_) s1⟩
    have hy := run_yield (P := P) (args := args.toArray) hL (by simpa using hs)
    have hex : (execOp ρ ⟨dst, .call ⟨.value x, xs.toArray, tys⟩, ty, pos, aft, g⟩).run P w = .ok (.round l r.fn ((r.params.zip args.toArray).foldl (fun tmps (t, a) => tmps.setIfInBounds t a) r.tmps) r.assign r.body) w := by
      simp only [execOp, resolve, List.map_toArray, hxs, hx]
      simp [Deferred.ofValue, invoke, hy]
    rw [stepG_op' ht hm ho hw rfl, execOp_eq _ rfl he]
    simp only [stepG.apply, Sem.runT_eq, hex, GStep.bare_after, if_true, ht]
    rfl
theorem beginRound (hL : w.heap[l]? = some (.loop r)) (hr : r.state = .ready) (h : Run P f N (some l) k E D (w.putObj l (.loop { r with state := .busy })) R) : Run P f N (some l) (.beginRound :: k) E D w R := by
  intro kind cs tmps hc ht
  obtain ⟨o, w', hq, m, s1, hT⟩ := h kind cs tmps hc ht
  refine ⟨o, w', hq, m, .head (step_lone_go ?_) s1, hT⟩
  have hb := run_beginRound (P := P) hL hr
  simp [stepG, stepG.exec, stepG.apply, hb, Frame.finish, Option.elim]
theorem endRound (hL : w.heap[l]? = some (.loop r)) (h : R (.ret (.bool true)) (w.putObj l (.loop { r with state := .ready, pending := none }))) : Run P f N (some l) [] E D w R := by
  intro kind cs tmps hc ht
  obtain ⟨rfl, hne⟩ := hc (by simp)
  cases cs with
  | nil => exact absurd rfl hne
  | cons c cs =>
    refine ⟨_, _, h, lone (c.finish (.bool true)) cs (w.putObj l (.loop { r with state := .ready, pending := none })), .one (step_lone_go ?_), fun c' cs' e => ?_⟩
    · have hb := run_endRound (P := P) none hL
      simp [stepG, stepG.exec, hb, doReturn]
    · cases e; rfl
theorem rangeFunc {fo : Operand} {ps : Array Tmp} {assign body : Code} {gf : FuncId} {cap : List Value} {Q : World → Loop → Prop} (hf : E.ev fo = .func (.func gf) #[] cap.toArray) (hG : ∀ args w, (callFunc gf args).run P w = .ok (.enter gf args) w)
    (h : Ret P gf (.func (.yield (w.heap.size + 1)) #[] #[] :: cap).toArray ((w.alloc (.deferred (some []))).alloc (.loop { state := .ready, pending := none, fn := f, tmps := tmpsOf N E, params := ps, assign, body, defers := w.heap.size }))
      fun _ w2 => ∃ r, w2.heap[w.heap.size + 1]? = some (.loop r) ∧ r.state ≠ .busy ∧ r.pending = none ∧ Q w2 r)
    (h2 : ∀ w2 r, Q w2 r → w2.heap[w.heap.size + 1]? = some (.loop r) → Run P f N none k E (⟨.collected w.heap.size, #[]⟩ :: D) (w2.putObj (w.heap.size + 1) (.loop { r with state := .exhausted })) R) :
    Run P f N none (.code (.rangeFunc fo ps assign body) :: k) E D w R := by
  intro kind cs tmps hc ht
  have hu := ht.unique
  obtain ⟨v, w2, ⟨r, g1, g2, g3, g4⟩, fr', s4, hm', hd, hk, hf', fn, hfn, hres⟩ := h.call .normal (Fm f none kind tmps (.inRangeFunc (w.heap.size + 1) :: k) (⟨.collected w.heap.size, #[]⟩ :: D) .run :: cs)
  obtain ⟨o, w3, hq, m, s3, hT⟩ := h2 w2 r g4 g1 kind cs tmps hc ht
  have st2 : step P (lone fr' (Fm f none kind tmps (.inRangeFunc (w.heap.size + 1) :: k) (⟨.collected w.heap.size, #[]⟩ :: D) .run :: cs) w2) = .next (lone (Fm f none kind tmps (.endRangeFunc (w.heap.size + 1) :: k) (⟨.collected w.heap.size, #[]⟩ :: D) .run) cs w2) :=
    step_lone_go (by simp [stepG, unwind, doReturn, hm', hd, hk, hf', hfn, hres, Frame.finish])
  have st3 : step P (lone (Fm f none kind tmps (.endRangeFunc (w.heap.size + 1) :: k) (⟨.collected w.heap.size, #[]⟩ :: D) .run) cs w2) = .next (lone (Fm f none kind tmps k (⟨.collected w.heap.size, #[]⟩ :: D) .run) cs (w2.putObj (w.heap.size + 1) (.loop { r with state := .exhausted }))) :=
    step_lone_go (by
      have he := run_endLoop (P := P) g1 g2
      simp [stepG, stepG.exec, he, g3])
  refine ⟨o, w3, hq, m, .head (step_lone_go ?_) (s4.trans (.head st2 (.head st3 s3))), hT⟩
  have hev : (Fm f none kind tmps (.inRangeFunc (w.heap.size + 1) :: k) (⟨.collected w.heap.size, #[]⟩ :: D) .run).eval fo = .func (.func gf) #[] cap.toArray := by rw [frame_eval, ht.eval, hf]
  rw [← hu]
  have he := run_enterLoop_outer (P := P) (w := w) f tmps ps assign body
  have hconst : ∀ (fr : Frame) (v : Value), fr.eval (.const v) = v := fun _ _ => rfl
  simp [stepG, stepG.exec, he, stepG.apply, resolve, hev, hconst, Deferred.ofValue, invoke, hG]
theorem unw_collected {mode : FrameMode} {b : Nat} {ds : List Deferred} (hm : mode ≠ .run) (hb : w.heap[b]? = some (.deferred (some []))) (h : Unw P f N mode E ds (w.putObj b (.deferred none)) R) : Unw P f N mode E (⟨.collected b, #[]⟩ :: ds) w R := by
  intro kind cs tmps todo ht
  obtain ⟨o, w', r, fr, s2, hl⟩ := h kind cs tmps todo ht
  refine ⟨o, w', r, fr, .head (step_lone_go ?_) s2, hl⟩
  have ht := run_takeDeferred (P := P) hb
  cases mode with
  | run => exact absurd rfl hm
  | returning => simp [stepG, unwind, ht]
  | panicking ch => simp [stepG, unwind, ht]
theorem putObj_at {w : World} {l : Nat} {o : Obj} (h : l < w.heap.size) : (w.putObj l o).heap[l]? = some o ∧ Ext (fun k => k = l) w (w.putObj l o) ∧ (w.putObj l o).heap.size = w.heap.size :=
  ⟨World.putObj_heap_same h, ⟨rfl, rfl, rfl, by simp [World.putObj], fun k _ hk => World.putObj_heap_other (fun e => hk e)⟩, by simp [World.putObj]⟩
theorem loop_lt {w : World} {l : Nat} {r : Loop} (h : w.heap[l]? = some (.loop r)) : l < w.heap.size := (Array.getElem?_eq_some_iff.1 h).1
theorem beginRound' (hL : w.heap[l]? = some (.loop r)) (hr : r.state = .ready) (h : ∀ w', w'.heap[l]? = some (.loop { r with state := .busy }) → Ext (fun k => k = l) w w' → w'.heap.size = w.heap.size → Run P f N (some l) k E D w' R) : Run P f N (some l) (.beginRound :: k) E D w R :=
  beginRound hL hr (let q := putObj_at (o := .loop { r with state := .busy }) (loop_lt hL); h _ q.1 q.2.1 q.2.2)
theorem endRound' (hL : w.heap[l]? = some (.loop { r with state := .busy })) (h1 : r.state = .ready) (h2 : r.pending = none) (h : ∀ w', w'.heap[l]? = some (.loop r) → Ext (fun k => k = l) w w' → w'.heap.size = w.heap.size → R (.ret (.bool true)) w') : Run P f N (some l) [] E D w R := by
  refine endRound hL ?_
  have e : ({ ({ r with state := .busy } : Loop) with state := .ready, pending := none } : Loop) = r := by cases r; simp_all
  rw [e]
  have q := putObj_at (o := .loop r) (loop_lt hL)
  exact h _ q.1 q.2.1 q.2.2
theorem rangeFunc' {fo : Operand} {ps : Array Tmp} {assign body : Code} {gf : FuncId} {cap : List Value} {Q : World → Prop} (hf : E.ev fo = .func (.func gf) #[] cap.toArray) (hG : ∀ args w, (callFunc gf args).run P w = .ok (.enter gf args) w) (hl : (E.l.all fun p => Nat.blt p.1 N) = true) (hb : E.b = fun _ => undef)
    (h : ∀ (rec : Loop) (w1 : World) (T : Array Value), rec.state = .ready → rec.pending = none → rec.fn = f → rec.tmps = T → Rep N E T → rec.params = ps → rec.assign = assign → rec.body = body → w1.heap[w.heap.size + 1]? = some (.loop rec) → w1.heap[w.heap.size]? = some (.deferred (some [])) → Keep w w1 → w1.heap.size = w.heap.size + 2 →
      Ret P gf (.func (.yield (w.heap.size + 1)) #[] #[] :: cap).toArray w1 fun _ w2 => (∃ r, w2.heap[w.heap.size + 1]? = some (.loop r) ∧ r.state ≠ .busy ∧ r.pending = none) ∧ Q w2)
    (h2 : ∀ w2 w3, Q w2 → Ext (fun k => k = w.heap.size + 1) w2 w3 → w3.heap.size = w2.heap.size → Run P f N none k E (⟨.collected w.heap.size, #[]⟩ :: D) w3 R) :
    Run P f N none (.code (.rangeFunc fo ps assign body) :: k) E D w R := by
  refine rangeFunc (Q := fun w2 _ => Q w2) hf hG ?_ ?_
  · have hsz : (w.alloc (.deferred (some []))).heap.size = w.heap.size + 1 := by simp
    have h1 := heap_alloc_new (w.alloc (.deferred (some []))) (.loop { state := .ready, pending := none, fn := f, tmps := tmpsOf N E, params := ps, assign, body, defers := w.heap.size })
    rw [hsz] at h1
    have h2 := heap_alloc_old (w.alloc (.deferred (some []))) (.loop { state := .ready, pending := none, fn := f, tmps := tmpsOf N E, params := ps, assign, body, defers := w.heap.size }) (show w.heap.size < _ by rw [hsz]; omega)
    rw [heap_alloc_new w] at h2
    refine (h _ _ (tmpsOf N E) rfl rfl rfl rfl (Rep.of hl hb) rfl rfl rfl h1 h2 ((Keep.alloc w _).trans (Keep.alloc _ _)) (by simp)).mono ?_
    rintro v w2 ⟨⟨r, g1, g2, g3⟩, g4⟩
    exact ⟨r, g1, g2, g3, g4⟩
  · intro w2 r hq hL
    have q := putObj_at (o := .loop { r with state := .exhausted }) (loop_lt hL)
    exact h2 w2 _ hq q.2.1 q.2.2
theorem fold1 (T : Array Value) (p : Nat) (a : Value) : (#[p].zip [a].toArray).foldl (fun tmps (t, a) => tmps.setIfInBounds t a) T = T.setIfInBounds p a := by simp
theorem unwT2 {fn : Func} {t1 t2 : Tmp} {v1 v2 : Value} (hf : P.funcs[f]? = some fn) (hr : fn.results = #[.tmp t1, .tmp t2]) (h1 : E.ev (.tmp t1) = v1) (h2 : E.ev (.tmp t2) = v2) (h : R (.ret (.tuple #[v1, v2])) w) : Unw P f N .returning E [] w R :=
  unw_ret hf (fun tmps ht => by rw [results_tmp2 hr, ht.at_ t1, ht.at_ t2, ← h1, ← h2]; rfl) h
theorem collected' {mode : FrameMode} {b : Nat} {ds : List Deferred} (hm : mode ≠ .run) (hb : w.heap[b]? = some (.deferred (some []))) (h : ∀ w', Ext (fun k => k = b) w w' → w'.heap.size = w.heap.size → Unw P f N mode E ds w' R) : Unw P f N mode E (⟨.collected b, #[]⟩ :: ds) w R :=
  unw_collected hm hb (let q := putObj_at (o := .deferred none) (Array.getElem?_eq_some_iff.1 hb).1; h _ q.2.1 q.2.2)
end
abbrev PCE := UInt8 × List UInt8
def KPc : Kd PCE := Kd.pair KB (Kd.slice KB)
theorem Sl.all {α : Type} {K : Kd α} (hF : Flat K) (hz : 0 < K.sz) {lo hi : Nat} {w : World} {A : Option Addr} {n : Nat} {xs : List α} (h : Sl K lo hi w A n xs) : Sl K 0 w.heap.size w A n xs := by
  refine ⟨h.len, h.bound, fun hn => ?_⟩
  obtain ⟨ad, e, h1, h2, hc⟩ := h.at_ hn
  refine ⟨ad, e, Nat.zero_le _, ?_, fun j x hx => ?_⟩
  · obtain ⟨cs, hr, hq⟩ := hc 0 (xs[0]'(by rw [h.len]; exact hn)) (List.getElem?_eq_getElem _)
    have hl := K.len hr
    have := hq 0 (cs[0]'Zz) (List.getElem?_eq_getElem _)
    have := World.block_lt_of_cell? w _ this
    rwa [add_block] at this
  · obtain ⟨cs, hr, hq⟩ := hc j x hx
    exact ⟨cs, hF hr, hq⟩
def PData (G : Nat → Prop) (w : World) : List Value → List PCE → Prop
  | [], [] => True
  | v :: vs, p :: ps => (∃ A n c lo hi, v = .agg #[.int .u8 (p.1.toNat : Int), .slice A n c] ∧ n ≤ c ∧ (∀ k, lo ≤ k → k < hi → G k) ∧ Sl KB lo hi w A n p.2) ∧ PData G w vs ps
  | _, _ => False
theorem PData.len {G : Nat → Prop} {w : World} : ∀ {vs : List Value} {ps : List PCE}, PData G w vs ps → vs.length = ps.length
  | [], [], _ => rfl
  | _ :: _, _ :: _, h => by simp [PData.len h.2]
  | [], _ :: _, h => h.elim
  | _ :: _, [], h => h.elim
theorem PData.move {G G' : Nat → Prop} {w w' : World} (hG : ∀ k, G k → G' k) (hs : ∀ k, G k → k < w.heap.size → w'.heap[k]? = w.heap[k]?) : ∀ {vs : List Value} {ps : List PCE}, PData G w vs ps → PData G' w' vs ps
  | [], [], _ => trivial
  | _ :: _, _ :: _, h => by
    obtain ⟨⟨A, n, c, lo, hi, e, h1, h2, h3⟩, h4⟩ := h
    exact ⟨⟨A, n, c, lo, hi, e, h1, fun k a b => hG k (h2 k a b), h3.move fun k a b hk => hs k (h2 k a b) hk⟩, PData.move hG hs h4⟩
  | [], _ :: _, h => h.elim
  | _ :: _, [], h => h.elim
theorem PData.app {G : Nat → Prop} {w : World} : ∀ {vs us : List Value} {ps qs : List PCE}, PData G w vs ps → PData G w us qs → PData G w (vs ++ us) (ps ++ qs)
  | [], _, [], _, _, h => h
  | _ :: _, _, _ :: _, _, h, h' => ⟨h.1, PData.app h.2 h'⟩
  | [], _, _ :: _, _, h, _ => h.elim
  | _ :: _, _, [], _, h, _ => h.elim
theorem PData.get {G : Nat → Prop} {w : World} : ∀ {vs : List Value} {ps : List PCE}, PData G w vs ps → ∀ {j : Nat} {p : PCE}, ps[j]? = some p → ∃ A n c lo hi, vs[j]? = some (.agg #[.int .u8 (p.1.toNat : Int), .slice A n c]) ∧ n ≤ c ∧ Sl KB lo hi w A n p.2
  | [], [], _, j, p, hp => by simp at hp
  | v :: vs, q :: ps, h, j, p, hp => by
    cases j with
    | zero =>
      simp only [List.getElem?_cons_zero, Option.some.injEq] at hp
      subst hp
      obtain ⟨A, n, c, lo, hi, e, h1, _, h3⟩ := h.1
      exact ⟨A, n, c, lo, hi, by rw [e]; rfl, h1, h3⟩
    | succ j =>
      simp only [List.getElem?_cons_succ] at hp ⊢
      exact PData.get h.2 hp
  | [], _ :: _, h, _, _, _ => h.elim
  | _ :: _, [], h, _, _, _ => h.elim
structure PR (e base : Nat) (G : Nat → Prop) (w : World) (v : Value) (ps : List PCE) : Prop where
  row : ∃ vs, Mine (KRN 2) e (fun k => base ≤ k ∧ ¬ G k) 0 0 w v vs ∧ PData G w vs ps
  g : ∀ k, G k → k < w.heap.size
  b : base ≤ w.heap.size
section
variable {e base : Nat} {G : Nat → Prop} {w w' : World} {v : Value} {ps : List PCE}
theorem PR.nil (e base : Nat) (w : World) (hb : base ≤ w.heap.size) : PR e base (fun _ => False) w (.slice none 0 0) [] := ⟨⟨[], Mine.nil _ _ _ _ _ _, trivial⟩, fun _ h => h.elim, hb⟩
theorem PR.ext (h : PR e base G w v ps) {T : Nat → Prop} (x : Ext T w w') (hT : ∀ k, T k → k < base ∧ ¬ G k) : PR e base G w' v ps := by
  obtain ⟨⟨vs, hM, hD⟩, hg, hb⟩ := h
  exact ⟨⟨vs, hM.ext x (by intro k h1 h2; omega) (fun k hk ht => by have := hT k ht; omega), hD.move (fun _ h => h) (fun k hk hl => x.keep k hl (fun ht => (hT k ht).2 hk))⟩, fun k hk => Nat.lt_of_lt_of_le (hg k hk) x.size, Nat.le_trans hb x.size⟩
theorem PR.keep (h : PR e base G w v ps) (x : Keep w w') : PR e base G w' v ps := h.ext x fun _ h => h.elim
theorem PR.len (h : PR e base G w v ps) : ∃ A c, v = .slice A ps.length c ∧ ps.length ≤ c := by
  obtain ⟨⟨vs, hM, hD⟩, _, _⟩ := h
  obtain ⟨A, c, e1, h1, _⟩ := hM.slice
  rw [hD.len] at e1 h1
  exact ⟨A, c, e1, h1⟩
theorem PR.one (h : PR e base G w v ps) : v.oneCell' = true := by
  obtain ⟨A, c, rfl, _⟩ := h.len; rfl
theorem PR.read (h : PR e base G w v ps) : ∃ A c, v = .slice A ps.length c ∧ ps.length ≤ c ∧ Sl KPc 0 w.heap.size w A ps.length ps := by
  obtain ⟨⟨vs, hM, hD⟩, _, _⟩ := h
  have q := hM.slF (KRN_flat 2) 0 (fun _ _ => Nat.zero_le _)
  obtain ⟨A, c, e1, h1, hs⟩ := q
  have hl := hD.len
  rw [hl] at e1 h1 hs
  refine ⟨A, c, e1, h1, rfl, hs.bound, fun hn => ?_⟩
  obtain ⟨ad, e2, g1, g2, hc⟩ := hs.at_ hn
  refine ⟨ad, e2, g1, g2, fun j p hp => ?_⟩
  obtain ⟨B, m, c', lo, hi, hv, hm, hS⟩ := hD.get hp
  obtain ⟨cs, ⟨r1, r2, r3⟩, hq⟩ := hc j _ hv
  injection r1 with r1
  have r1 : [Value.int .u8 (p.1.toNat : Int), .slice B m c'] = cs := by simpa using congrArg Array.toList r1
  subst r1
  exact ⟨_, ⟨[.int .u8 (p.1.toNat : Int)], [.slice B m c'], rfl, KB_R _ _ _ _, B, m, c', rfl, hm, hS.all KB_flat (by decide)⟩, hq⟩
theorem Sl.pieces {lo hi : Nat} {A : Option Addr} {n : Nat} (h : Sl KPc lo hi w A n ps) : ∃ vs, Sl (KRN 2) lo hi w A n vs ∧ PData (fun k => lo ≤ k ∧ k < hi) w vs ps := by
  have key : ∀ (ps : List PCE) (off : Nat), (∀ j p, ps[j]? = some p → ∃ B m c, m ≤ c ∧ Sl KB lo hi w B m p.2 ∧ ∀ ad, A = some ad → w.cell? (ad.add (off + j * 2)) = some (.int .u8 (p.1.toNat : Int)) ∧ w.cell? (ad.add (off + j * 2 + 1)) = some (.slice B m c)) →
      ∃ vs : List Value, PData (fun k => lo ≤ k ∧ k < hi) w vs ps ∧ (∀ j v, vs[j]? = some v → ∃ a b, v = .agg #[a, b] ∧ a.oneCell' = true ∧ b.oneCell' = true ∧ ∀ ad, A = some ad → w.cell? (ad.add (off + j * 2)) = some a ∧ w.cell? (ad.add (off + j * 2 + 1)) = some b) := by
    intro ps
    induction ps with
    | nil => intro off _; exact ⟨[], trivial, fun j v hv => by simp at hv⟩
    | cons p ps ih =>
      intro off hq
      obtain ⟨B, m, c, h1, h2, h3⟩ := hq 0 p rfl
      obtain ⟨vs, hr, hv⟩ := ih (off + 2) fun j y hy => by
        obtain ⟨B, m, c, g1, g2, g3⟩ := hq (j + 1) y (by simpa using hy)
        exact ⟨B, m, c, g1, g2, fun ad e => by have := g3 ad e; rwa [show off + (j + 1) * 2 = off + 2 + j * 2 by omega] at this⟩
      refine ⟨.agg #[.int .u8 (p.1.toNat : Int), .slice B m c] :: vs, ⟨⟨B, m, c, lo, hi, rfl, h1, fun _ a b => ⟨a, b⟩, h2⟩, hr⟩, fun j v hj => ?_⟩
      cases j with
      | zero =>
        simp only [List.getElem?_cons_zero, Option.some.injEq] at hj
        subst hj
        exact ⟨_, _, rfl, rfl, rfl, h3⟩
      | succ j =>
        simp only [List.getElem?_cons_succ] at hj
        obtain ⟨a, b, g1, g2, g3, g4⟩ := hv j v hj
        exact ⟨a, b, g1, g2, g3, fun ad e => by have := g4 ad e; rwa [show off + 2 + j * 2 = off + (j + 1) * 2 by omega] at this⟩
  obtain ⟨vs, hr, hv⟩ := key ps 0 fun j p hp => by
    obtain ⟨ad, cs, e1, ⟨a, b, rfl, ⟨rfl, _⟩, ⟨B, m, c, rfl, h1, h2⟩⟩, hq⟩ := h.get j p hp
    refine ⟨B, m, c, h1, h2, fun ad' e' => ?_⟩
    rw [e1] at e'
    cases e'
    have q0 := hq 0 _ rfl
    have q1 := hq 1 _ rfl
    have hz : KPc.sz = 2 := rfl
    rw [hz] at q0 q1
    exact ⟨by simpa using q0, by simpa using q1⟩
  refine ⟨vs, ⟨hr.len.trans h.len, h.bound, fun hn => ?_⟩, hr⟩
  obtain ⟨ad, e1, h1, h2, _⟩ := h.at_ hn
  refine ⟨ad, e1, h1, h2, fun j v hj => ?_⟩
  obtain ⟨a, b, g1, g2, g3, g4⟩ := hv j v hj
  subst g1
  have g := g4 ad e1
  rw [Nat.zero_add] at g
  refine ⟨[a, b], ⟨rfl, rfl, fun u hu => by simp at hu; rcases hu with rfl | rfl <;> assumption⟩, fun i u hu => ?_⟩
  have hz : (KRN 2).sz = 2 := rfl
  rw [hz]
  match i, hu with
  | 0, hu => simp at hu; subst hu; exact g.1
  | 1, hu => simp at hu; subst hu; exact g.2
end
section
variable {P : Program} {ρ : Operand → Value} {e base bytes : Nat} {G : Nat → Prop} {w : World} {v : Value} {ps : List PCE} {dst : Option Tmp} {ty : TypeId} {pos : String} {aft : Array Edge} {g : Option (Nat × Bool)}
theorem PR.appE {T : TypeId} {s x : Operand} {k : UInt8} {bs : List UInt8} {A B : Option Addr} {n c lo hi lo2 hi2 m c2 : Nat} (hR : PR e base G w v ps) (hT : P.underlying T = some (.slice e)) (hI : ElemInfo P e 2 bytes) (hs : ρ s = v) (hx : ρ x = .slice B m c2)
    (hL : Sl (KRN 2) lo2 hi2 w B m [.agg #[.int .u8 (k.toNat : Int), .slice A n c]]) (hnc : n ≤ c) (hG : ∀ k, lo ≤ k → k < hi → G k) (hS : Sl KB lo hi w A n bs) (hmax : (ps.length + 1) * bytes ≤ 140737488355328) :
    DoesE P ⟨dst, .call ⟨.builtin .append, #[s, x], #[T, T]⟩, ty, pos, aft, g⟩ ρ w fun v' w' => PR e base G w' v' (ps ++ [(k, bs)]) ∧ Ext (fun k => base ≤ k ∧ ¬ G k) w w' := by
  obtain ⟨⟨vs, hM, hD⟩, hg, hb⟩ := hR
  have hl := hD.len
  refine (X.appE (K := KRN 2) (S := fun k => base ≤ k ∧ ¬ G k) (KRN_flat 2) hT hI hs hx hM hL (by rw [hl]; exact hmax) (fun k hk => ⟨by omega, fun hq => by have := hg k hq; omega⟩)).mono fun v' w' ⟨h1, h2⟩ => ⟨⟨⟨_, h1, ?_⟩, fun k hk => Nat.lt_of_lt_of_le (hg k hk) h2.size, Nat.le_trans hb h2.size⟩, h2⟩
  exact (hD.app (us := [.agg #[.int .u8 (k.toNat : Int), .slice A n c]]) (qs := [(k, bs)]) ⟨⟨A, n, c, lo, hi, rfl, hnc, hG, hS⟩, trivial⟩).move (fun _ h => h) fun k hk hlt => h2.keep k hlt fun h => h.2 hk
end
def KNt : Kd Nat := Kd.plain 1 (fun c => [.int .i64 (c : Int)]) (fun _ => True) (fun _ => rfl) (fun _ u hu => by simp at hu; subst hu; rfl)
theorem KNt_flat : Flat KNt := fun h => h
section
variable {P : Program} {ρ : Operand → Value} {w : World} {dst : Option Tmp} {ty : TypeId} {pos : String} {aft : Array Edge} {g : Option (Nat × Bool)}
theorem appRow {α : Type} {K : Kd α} {e T : TypeId} {bytes : Nat} {S : Nat → Prop} {lo' hi' : Nat} {s x : Operand} {v : Value} {xs ys : List α} {A : Option Addr} {m c : Nat} (hF : Flat K) (hT : P.underlying T = some (.slice e)) (hI : ElemInfo P e K.sz bytes)
    (hs : ρ s = v) (hx : ρ x = .slice A m c) (hO : Mine K e S 0 0 w v xs) (hb : ∀ k, S k → k < w.heap.size) (hS : Sl K lo' hi' w A m ys) (hmax : (xs.length + ys.length) * bytes ≤ 140737488355328) :
    DoesE P ⟨dst, .call ⟨.builtin .append, #[s, x], #[T, T]⟩, ty, pos, aft, g⟩ ρ w fun v' w' => Mine K e (fun k => S k ∨ (w.heap.size ≤ k ∧ k < w'.heap.size)) 0 0 w' v' (xs ++ ys) ∧ Ext S w w' := by
  refine (appE (S := fun k => S k ∨ w.heap.size ≤ k) hF hT hI hs hx (hO.mono fun k _ h => .inl h) hS hmax (fun k h => .inr h)).mono fun v' w' ⟨h1, h2⟩ => ⟨h1.mono fun k hk h => h.elim .inl fun h => .inr ⟨h, hk⟩, ?_⟩
  exact h2.mono fun k hk h => h.elim id fun h => by omega
end
structure BK3 (tb ti tp base m1 m2 m3 : Nat) (S1 S2 S3 : Nat → Prop) (w : World) (va ve vp : Value) (la : List UInt8) (le : List Nat) (ps : List PCE) : Prop where
  a : Mine KB tb S1 0 0 w va la
  e : Mine KNt ti S2 0 0 w ve le
  p : ∃ vs, Mine (KRN 2) tp S3 0 0 w vp vs ∧ PData (fun k => k < base) w vs ps
  s1 : ∀ k, S1 k → base ≤ k ∧ k < m1
  s2 : ∀ k, S2 k → base ≤ k ∧ k < m2
  s3 : ∀ k, S3 k → base ≤ k ∧ k < m3
  l1 : m1 ≤ w.heap.size
  l2 : m2 ≤ w.heap.size
  l3 : m3 ≤ w.heap.size
  d12 : ∀ k, S1 k → ¬ S2 k
  d13 : ∀ k, S1 k → ¬ S3 k
  d23 : ∀ k, S2 k → ¬ S3 k
  b : base ≤ w.heap.size
section
variable {tb ti tp base m1 m2 m3 : Nat} {S1 S2 S3 : Nat → Prop} {w w' : World} {va ve vp : Value} {la : List UInt8} {le : List Nat} {ps : List PCE}
theorem BK3.nil (tb ti tp base m : Nat) (w : World) (hb : base ≤ w.heap.size) (hm : m ≤ w.heap.size) : BK3 tb ti tp base m m m (fun _ => False) (fun _ => False) (fun _ => False) w (.slice none 0 0) (.slice none 0 0) (.slice none 0 0) [] [] [] :=
  ⟨Mine.nil _ _ _ _ _ _, Mine.nil _ _ _ _ _ _, ⟨[], Mine.nil _ _ _ _ _ _, trivial⟩, fun _ h => h.elim, fun _ h => h.elim, fun _ h => h.elim, hm, hm, hm, fun _ h => h.elim, fun _ h => h.elim, fun _ h => h.elim, hb⟩
theorem BK3.keep (h : BK3 tb ti tp base m1 m2 m3 S1 S2 S3 w va ve vp la le ps) (x : Keep w w') : BK3 tb ti tp base m1 m2 m3 S1 S2 S3 w' va ve vp la le ps := by
  obtain ⟨a, e, ⟨vs, p, q⟩, s1, s2, s3, l1, l2, l3, d12, d13, d23, b⟩ := h
  have hz := x.size
  exact ⟨a.keep x, e.keep x, ⟨vs, p.keep x, q.move (fun _ h => h) fun k _ hk => x.keep k hk id⟩, s1, s2, s3, by omega, by omega, by omega, d12, d13, d23, by omega⟩
theorem BK3.ext (h : BK3 tb ti tp base m1 m2 m3 S1 S2 S3 w va ve vp la le ps) {T : Nat → Prop} (x : Ext T w w') (hT : ∀ k, T k → base ≤ k ∧ m1 ≤ k ∧ m2 ≤ k ∧ m3 ≤ k) : BK3 tb ti tp base m1 m2 m3 S1 S2 S3 w' va ve vp la le ps := by
  obtain ⟨a, e, ⟨vs, p, q⟩, s1, s2, s3, l1, l2, l3, d12, d13, d23, b⟩ := h
  have hz := x.size
  refine ⟨a.ext x (by intro k h1 h2; omega) ?_, e.ext x (by intro k h1 h2; omega) ?_, ⟨vs, p.ext x (by intro k h1 h2; omega) ?_, q.move (fun _ h => h) fun k hG hk => x.keep k hk ?_⟩, s1, s2, s3, by omega, by omega, by omega, d12, d13, d23, by omega⟩
  · intro k h1 h2; have := s1 k h1; have := hT k h2; omega
  · intro k h1 h2; have := s2 k h1; have := hT k h2; omega
  · intro k h1 h2; have := s3 k h1; have := hT k h2; omega
  · intro h2; have := hT k h2; have : k < base := hG; omega
theorem BK3.all (h : BK3 tb ti tp base m1 m2 m3 S1 S2 S3 w va ve vp la le ps) : BK3 tb ti tp base w.heap.size w.heap.size w.heap.size S1 S2 S3 w va ve vp la le ps := by
  obtain ⟨a, e, p, s1, s2, s3, l1, l2, l3, d12, d13, d23, b⟩ := h
  exact ⟨a, e, p, fun k h => by have := s1 k h; omega, fun k h => by have := s2 k h; omega, fun k h => by have := s3 k h; omega, Nat.le_refl _, Nat.le_refl _, Nat.le_refl _, d12, d13, d23, b⟩
theorem BK3.rd (h : BK3 tb ti tp base m1 m2 m3 S1 S2 S3 w va ve vp la le ps) : ∃ A1 c1 A2 c2 A3 c3 vs, va = .slice A1 la.length c1 ∧ ve = .slice A2 le.length c2 ∧ vp = .slice A3 ps.length c3 ∧ la.length ≤ c1 ∧ le.length ≤ c2 ∧ ps.length ≤ c3 ∧
    Sl KB 0 w.heap.size w A1 la.length la ∧ Sl KNt 0 w.heap.size w A2 le.length le ∧ Sl (KRN 2) 0 w.heap.size w A3 ps.length vs ∧ PData (fun k => k < base) w vs ps := by
  obtain ⟨a, e, ⟨vs, p, q⟩, _⟩ := h
  obtain ⟨A1, c1, e1, g1, r1⟩ := a.slF KB_flat 0 (fun _ _ => Nat.zero_le _)
  obtain ⟨A2, c2, e2, g2, r2⟩ := e.slF KNt_flat 0 (fun _ _ => Nat.zero_le _)
  obtain ⟨A3, c3, e3, g3, r3⟩ := p.slF (KRN_flat 2) 0 (fun _ _ => Nat.zero_le _)
  have hl := q.len
  rw [hl] at e3 g3 r3
  exact ⟨A1, c1, A2, c2, A3, c3, vs, e1, e2, e3, g1, g2, g3, r1, r2, r3, q⟩
variable {P : Program} {ρ : Operand → Value} {dst : Option Tmp} {ty : TypeId} {pos : String} {aft : Array Edge} {g : Option (Nat × Bool)} {T : TypeId} {s x : Operand} {A : Option Addr} {n c lo hi bytes : Nat}
theorem BK3.appA {ys : List UInt8} (h : BK3 tb ti tp base m1 m2 m3 S1 S2 S3 w va ve vp la le ps) (hS : Sl KB lo hi w A n ys) (hT : P.underlying T = some (.slice tb)) (hI : ElemInfo P tb 1 bytes) (hs : ρ s = va) (hx : ρ x = .slice A n c) (hmax : (la.length + ys.length) * bytes ≤ 140737488355328) :
    DoesE P ⟨dst, .call ⟨.builtin .append, #[s, x], #[T, T]⟩, ty, pos, aft, g⟩ ρ w fun v' w' => ∃ A' c' S', v' = .slice A' (la ++ ys).length c' ∧ BK3 tb ti tp base w'.heap.size m2 m3 S' S2 S3 w' v' ve vp (la ++ ys) le ps ∧ Ext (fun k => base ≤ k ∧ k < m1) w w' := by
  obtain ⟨a, e, ⟨vs, p, q⟩, s1, s2, s3, l1, l2, l3, d12, d13, d23, b⟩ := h
  refine (appRow (K := KB) KB_flat hT hI hs hx a (fun k hk => by have := s1 k hk; omega) hS hmax).mono fun v' w' ⟨h1, h2⟩ => ?_
  obtain ⟨A', c', e1, _⟩ := h1.slice
  have hz := h2.size
  refine ⟨A', c', _, e1, ⟨h1, e.ext h2 (by intro k h1 h2; omega) (fun k h3 h4 => d12 k h4 h3), ⟨vs, p.ext h2 (by intro k h1 h2; omega) (fun k h3 h4 => d13 k h4 h3), q.move (fun _ h => h) fun k hG hk => h2.keep k hk fun h => ?_⟩, ?_, s2, s3, Nat.le_refl _, by omega, by omega, ?_, ?_, d23, by omega⟩, h2.mono fun k _ hk => s1 k hk⟩
  · have := s1 k h; have : k < base := hG; omega
  · rintro k (h | ⟨h, h'⟩)
    · have := s1 k h; omega
    · omega
  · rintro k (h | ⟨h, h'⟩) h3
    · exact d12 k h h3
    · have := s2 k h3; omega
  · rintro k (h | ⟨h, h'⟩) h3
    · exact d13 k h h3
    · have := s3 k h3; omega
end
section
variable {P : Program} {ρ : Operand → Value} {w : World} {dst : Option Tmp} {ty : TypeId} {pos : String} {aft : Array Edge} {g : Option (Nat × Bool)}
theorem gtD {T T' : TypeId} {x y : Operand} {a b : ByteArray} (hx : ρ x = .string a) (hy : ρ y = .string b) : Does P ⟨dst, .binOp .gtr T x y T', ty, pos, aft, g⟩ ρ w (.bool (Op.bytesLess b.data.toList a.data.toList)) w := by
  have key : Op.bytesLess b.data.toList a.data.toList = !(Op.bytesLess a.data.toList b.data.toList || a.data.toList == b.data.toList) := by
    generalize a.data.toList = x
    generalize b.data.toList = y
    induction x generalizing y with
    | nil => cases y <;> simp [Op.bytesLess]
    | cons c x ih =>
      cases y with
      | nil => simp [Op.bytesLess]
      | cons d y =>
        simp only [Op.bytesLess]
        rw [ih y]
        by_cases h : c = d
        · subst h; simp
        · have h2 : ¬ d = c := fun e => h e.symm
          have : (d < c) ↔ ¬ (c < d) := by
            constructor
            · intro h3 h4; exact absurd (UInt8.lt_trans h3 h4) (UInt8.lt_irrefl _)
            · intro h3; exact UInt8.lt_of_le_of_ne (UInt8.not_lt.1 h3) h2
          by_cases h3 : c < d <;> simp [h, h2, h3, this]
  exact does_run rfl (by
    simp only [execOp, hx, hy, binOp, eqGuard, Op.stringOp]
    simp only [ByteArray.toList_eq, key]
    simp)
end
section
variable {α : Type} {K : Kd α} {lo hi : Nat} {w : World}
theorem Reps.take : ∀ {xs : List α} {cs : List Value} (m : Nat), Reps K lo hi w xs cs → Reps K lo hi w (xs.take m) (cs.take (m * K.sz))
  | [], cs, m, h => by rw [show cs = [] from h]; simp; exact rfl
  | x :: xs, cs, 0, _ => by simp; exact rfl
  | x :: xs, cs, m + 1, ⟨a, b, e, h1, h2⟩ => by
    have hl := K.len h1
    refine ⟨a, b.take (m * K.sz), ?_, h1, Reps.take m h2⟩
    rw [e, List.take_append, List.take_of_length_le (by rw [hl, Nat.add_mul]; omega), hl, Nat.add_mul, show m * K.sz + 1 * K.sz - K.sz = m * K.sz by omega]
theorem Reps.splice {x x' : α} {i : Nat} {vs : List Value} (hR : ∀ a, K.R lo hi w x a → K.R lo hi w x' (a.take i ++ vs ++ a.drop (i + vs.length))) (hi' : i + vs.length ≤ K.sz) : ∀ {xs : List α} {cs : List Value} (j : Nat), xs[j]? = some x → Reps K lo hi w xs cs → Reps K lo hi w (xs.set j x') (cs.take (j * K.sz + i) ++ vs ++ cs.drop (j * K.sz + i + vs.length))
  | [], cs, j, hx, _ => by simp at hx
  | y :: xs, cs, 0, hx, ⟨a, b, e, h1, h2⟩ => by
    simp at hx; subst hx
    have hl := K.len h1
    refine ⟨a.take i ++ vs ++ a.drop (i + vs.length), b, ?_, hR a h1, h2⟩
    rw [e, Nat.zero_mul, Nat.zero_add, List.take_append_of_le_length Zz, List.drop_append_of_le_length Zz]
    simp
  | y :: xs, cs, j + 1, hx, ⟨a, b, e, h1, h2⟩ => by
    simp at hx
    have hl := K.len h1
    refine ⟨a, b.take (j * K.sz + i) ++ vs ++ b.drop (j * K.sz + i + vs.length), ?_, h1, Reps.splice hR hi' j hx h2⟩
    rw [e, Nat.add_mul, Nat.one_mul, List.take_append, List.drop_append, List.take_of_length_le Zz, List.drop_of_length_le Zz, hl]
    rw [show j * K.sz + K.sz + i - K.sz = j * K.sz + i by omega, show j * K.sz + K.sz + i + vs.length - K.sz = j * K.sz + i + vs.length by omega]
    simp
end
section
variable {α : Type} {K : Kd α} {e : TypeId} {S : Nat → Prop} {lo hi : Nat} {w : World} {xs : List α}
theorem Own.take {b : Option Nat} {A : Option Addr} {n c : Nat} (h : Own K e b lo hi w (.slice A n c) xs) (m : Nat) (hm : m ≤ n) : Own K e b lo hi w (.slice A m c) (xs.take m) := by
  obtain ⟨⟨cs, hr, ho⟩, hb⟩ := h
  refine ⟨⟨cs.take (m * K.sz), hr.take m, ?_⟩, by rw [← hb]; cases A <;> rfl⟩
  have hl := ho.1
  rcases ho.2 with ⟨h0, h1⟩ | ⟨g, cap, cur, he, hg, hh, hnc, hcm, hcs, htk⟩
  · cases h0
    have : m = 0 := by omega
    subst this
    refine ⟨by simp, .inl ⟨rfl, by simp⟩⟩
  · injection he with e1 e2 e3
    subst e1 e3
    have hlx : (xs.take m).length = m := by rw [List.length_take]; omega
    have hms : m * K.sz ≤ n * K.sz := Nat.mul_le_mul_right _ hm
    refine ⟨by rw [List.length_take, hlx, hl, ← e2]; omega, .inr ⟨g, c, cur, by rw [hlx], hg, hh, by rw [hlx]; omega, hcm, hcs, ?_⟩⟩
    rw [hlx, ← htk, List.take_take, ← e2, Nat.min_eq_left hms]
theorem Mine.take {A : Option Addr} {n c : Nat} (h : Mine K e S lo hi w (.slice A n c) xs) (m : Nat) (hm : m ≤ n) : Mine K e S lo hi w (.slice A m c) (xs.take m) := let ⟨b, h, hb⟩ := h; ⟨b, h.take m hm, hb⟩
theorem Mine.len {A : Option Addr} {n c : Nat} (h : Mine K e S lo hi w (.slice A n c) xs) : xs.length = n := by
  obtain ⟨A', c', e, _⟩ := h.slice
  injection e with _ h2 _
  exact h2.symm
end
section
variable {P : Program} {ρ : Operand → Value} {w : World} {dst : Option Tmp} {ty : TypeId} {pos : String} {aft : Array Edge} {g : Option (Nat × Bool)}
end
structure Nd (α β : Type) where
  K : Kd α
  flat : Flat K
  R : (Nat → Prop) → World → α → β → Prop
  ext : ∀ {TB U : Nat → Prop} {w w' : World} {x : α} {q : β}, R TB w x q → Ext U w w' → (∀ k, TB k → ¬ U k) → R TB w' x q
  mono : ∀ {TB TC : Nat → Prop} {w : World} {x : α} {q : β}, R TB w x q → (∀ k, TB k → TC k) → R TC w x q
section
variable {α β : Type} {D : Nd α β} {TB TC U : Nat → Prop} {w w' : World} {L : List α} {l : List β}
def Nd.All (D : Nd α β) (TB : Nat → Prop) (w : World) (L : List α) (l : List β) : Prop := L.length = l.length ∧ ∀ (i : Nat) (x : α), L[i]? = some x → ∃ q, l[i]? = some q ∧ D.R TB w x q
theorem Nd.All.nil (D : Nd α β) (TB : Nat → Prop) (w : World) : D.All TB w [] [] := ⟨rfl, fun i x h => by simp at h⟩
theorem Nd.All.ext (h : D.All TB w L l) (y : Ext U w w') (hU : ∀ k, TB k → ¬ U k) : D.All TB w' L l := ⟨h.1, fun i x hx => let ⟨q, h1, h2⟩ := h.2 i x hx; ⟨q, h1, D.ext h2 y hU⟩⟩
theorem Nd.All.keep (h : D.All TB w L l) (y : Keep w w') : D.All TB w' L l := h.ext y fun _ _ h => h
theorem Nd.All.mono (h : D.All TB w L l) (hT : ∀ k, TB k → TC k) : D.All TC w L l := ⟨h.1, fun i x hx => let ⟨q, h1, h2⟩ := h.2 i x hx; ⟨q, h1, D.mono h2 hT⟩⟩
theorem Nd.All.snoc {x : α} {q : β} (h : D.All TB w L l) (hx : D.R TB w x q) : D.All TB w (L ++ [x]) (l ++ [q]) := by
  refine ⟨by rw [List.length_append, List.length_append, h.1]; rfl, fun i y hy => ?_⟩
  rcases Nat.lt_or_ge i L.length with hi | hi
  · rw [List.getElem?_append_left hi] at hy
    rw [List.getElem?_append_left (by rw [← h.1]; exact hi)]
    exact h.2 i y hy
  · have hl := (List.getElem?_eq_some_iff.1 hy).1
    rw [List.length_append, List.length_singleton] at hl
    have e : i = L.length := by omega
    subst e
    rw [List.getElem?_append_right (Nat.le_refl _), Nat.sub_self] at hy
    cases hy
    exact ⟨q, by rw [h.1, List.getElem?_append_right (Nat.le_refl _), Nat.sub_self]; rfl, hx⟩
theorem Nd.All.take (h : D.All TB w L l) (k : Nat) : D.All TB w (L.take k) (l.take k) := by
  refine ⟨by rw [List.length_take, List.length_take, h.1], fun i x hx => ?_⟩
  rw [List.getElem?_take] at hx
  split at hx
  · rename_i hi
    obtain ⟨q, h1, h2⟩ := h.2 i x hx
    exact ⟨q, by rw [List.getElem?_take, if_pos hi]; exact h1, h2⟩
  · cases hx
theorem Nd.All.append {L' : List α} {l' : List β} (h : D.All TB w L l) (h' : D.All TB w L' l') : D.All TB w (L ++ L') (l ++ l') := by
  refine ⟨by rw [List.length_append, List.length_append, h.1, h'.1], fun i y hy => ?_⟩
  rcases Nat.lt_or_ge i L.length with hi | hi
  · rw [List.getElem?_append_left hi] at hy
    rw [List.getElem?_append_left (by rw [← h.1]; exact hi)]
    exact h.2 i y hy
  · rw [List.getElem?_append_right hi] at hy
    rw [List.getElem?_append_right (by rw [← h.1]; exact hi), ← h.1]
    exact h'.2 _ y hy
end
structure NRow {α β : Type} (D : Nd α β) (tb base m : Nat) (S G : Nat → Prop) (w : World) (v : Value) (L : List α) (l : List β) : Prop where
  a : Mine D.K tb S 0 0 w v L
  d : D.All G w L l
  s : ∀ k, S k → base ≤ k ∧ k < m
  g : ∀ k, G k → base ≤ k ∧ k < w.heap.size
  l1 : m ≤ w.heap.size
  dj : ∀ k, S k → ¬ G k
  b : base ≤ w.heap.size
section
variable {α β : Type} {D : Nd α β} {tb base m : Nat} {S G : Nat → Prop} {w w' : World} {v : Value} {L : List α} {l : List β}
theorem NRow.nil (D : Nd α β) (tb base : Nat) (w : World) (hb : base ≤ w.heap.size) : NRow D tb base w.heap.size (fun _ => False) (fun _ => False) w (.slice none 0 0) [] [] :=
  ⟨Mine.nil _ _ _ _ _ _, Nd.All.nil _ _ _, fun _ h => h.elim, fun _ h => h.elim, Nat.le_refl _, fun _ h => h.elim, hb⟩
theorem NRow.keep (h : NRow D tb base m S G w v L l) (x : Keep w w') : NRow D tb base m S G w' v L l := by
  obtain ⟨a, d, s, g, l1, dj, b⟩ := h
  have hz := x.size
  exact ⟨a.keep x, d.keep x, s, fun k hk => by have := g k hk; omega, by omega, dj, by omega⟩
theorem NRow.ext (h : NRow D tb base m S G w v L l) {T : Nat → Prop} (x : Ext T w w') (hT : ∀ k, T k → k < base ∨ w.heap.size ≤ k) : NRow D tb base m S G w' v L l := by
  obtain ⟨a, d, s, g, l1, dj, b⟩ := h
  have hz := x.size
  exact ⟨a.ext x (by intro k h1 h2; omega) (fun k h1 h2 => by have := s k h1; have := hT k h2; omega), d.ext x (fun k h1 h2 => by have := g k h1; have := hT k h2; omega), s, fun k hk => by have := g k hk; omega, by omega, dj, by omega⟩
theorem NRow.low {base' : Nat} (h : NRow D tb base m S G w v L l) (hb : base' ≤ base) : NRow D tb base' m S G w v L l := by
  obtain ⟨a, d, s, g, l1, dj, b⟩ := h
  exact ⟨a, d, fun k hk => by have := s k hk; omega, fun k hk => by have := g k hk; omega, l1, dj, by omega⟩
theorem NRow.slice (h : NRow D tb base m S G w v L l) : ∃ A c, v = .slice A l.length c ∧ l.length ≤ c := by
  obtain ⟨A, c, e, hc, _⟩ := h.a.slice
  rw [h.d.1] at e hc
  exact ⟨A, c, e, hc⟩
theorem NRow.rd (h : NRow D tb base m S G w v L l) : ∃ A c, v = .slice A l.length c ∧ l.length ≤ c ∧ Sl D.K base m w A l.length L := by
  obtain ⟨A, c, e, hc, hs⟩ := (h.a.flat D.flat (lo' := base) (hi' := m)).sl (fun k _ h' => h.s k h')
  rw [h.d.1] at e hc hs
  exact ⟨A, c, e, hc, hs⟩
theorem NRow.all (h : NRow D tb base m S G w v L l) : NRow D tb base w.heap.size S G w v L l := by
  obtain ⟨a, d, s, g, l1, dj, b⟩ := h
  exact ⟨a, d, fun k hk => by have := s k hk; omega, g, Nat.le_refl _, dj, b⟩
variable {P : Program} {ρ : Operand → Value} {dst : Option Tmp} {ty : TypeId} {pos : String} {aft : Array Edge} {g : Option (Nat × Bool)} {T : TypeId} {s x : Operand} {A : Option Addr} {n c lo hi lo' hi' bytes : Nat}
theorem NRow.app {y : α} {q : β} (h : NRow D tb base m S G w v L l) (hS : Sl D.K lo hi w A n [y]) (hq : D.R (fun k => lo' ≤ k ∧ k < hi') w y q) (hlo : m ≤ lo') (hb : base ≤ lo') (hhi : hi' ≤ w.heap.size) (hT : P.underlying T = some (.slice tb)) (hI : ElemInfo P tb D.K.sz bytes) (hs : ρ s = v) (hx : ρ x = .slice A n c) (hmax : (l.length + 1) * bytes ≤ 140737488355328) :
    DoesE P ⟨dst, .call ⟨.builtin .append, #[s, x], #[T, T]⟩, ty, pos, aft, g⟩ ρ w fun v' w' => ∃ A' c' S' G', v' = .slice A' (l ++ [q]).length c' ∧ NRow D tb base w'.heap.size S' G' w' v' (L ++ [y]) (l ++ [q]) ∧ Ext (fun k => base ≤ k ∧ k < m) w w' := by
  obtain ⟨a, d, s1, g1, l1, dj, b⟩ := h
  refine (appRow (K := D.K) D.flat hT hI hs hx a (fun k hk => by have := s1 k hk; omega) hS (by rw [d.1]; exact hmax)).mono fun v' w' ⟨h1, h2⟩ => ?_
  have hz := h2.size
  obtain ⟨A', c', e1, _⟩ := h1.slice
  rw [List.length_append, d.1] at e1
  refine ⟨A', c', _, fun k => G k ∨ (lo' ≤ k ∧ k < hi'), by rw [List.length_append]; exact e1, ⟨h1, ((d.mono (fun k hk => .inl hk)).snoc (D.mono hq fun k hk => .inr hk)).ext h2 (fun k hk hs => ?_), ?_, ?_, Nat.le_refl _, ?_, by omega⟩, h2.mono fun k _ hk => s1 k hk⟩
  · rcases hk with hk | hk
    · exact dj k hs hk
    · have := s1 k hs; omega
  · rintro k (h | ⟨h, h'⟩)
    · have := s1 k h; omega
    · omega
  · rintro k (h | h)
    · have := g1 k h; omega
    · omega
  · rintro k (h | ⟨h, h'⟩) (h3 | h3)
    · exact dj k h h3
    · have := s1 k h; omega
    · have := g1 k h3; omega
    · omega
end
def Agree (T : Nat → Prop) (B : Nat) (w w' : World) : Prop := Ext (fun k => B ≤ k ∧ ¬ T k) w w'
theorem Agree.refl (T : Nat → Prop) (B : Nat) (w : World) : Agree T B w w := Ext.refl _ w
theorem Agree.trans {T : Nat → Prop} {B : Nat} {a b c : World} (h : Agree T B a b) (h' : Agree T B b c) : Agree T B a c := Ext.trans h h' (fun _ _ x => x) (fun _ _ x => x)
theorem Agree.of_ext {T U : Nat → Prop} {B : Nat} {w w' : World} (h : Ext U w w') (hU : ∀ k, k < w.heap.size → U k → B ≤ k ∧ ¬ T k) : Agree T B w w' := h.mono hU
theorem Agree.of_keep {T : Nat → Prop} {B : Nat} {w w' : World} (h : Keep w w') : Agree T B w w' := h.mono fun _ _ h => h.elim
theorem Agree.sub {T U : Nat → Prop} {B : Nat} {w w' : World} (h : Agree T B w w') (hU : ∀ k, U k → T k) : Agree U B w w' := Ext.mono h fun k _ hk => ⟨hk.1, fun hu => hk.2 (hU k hu)⟩
theorem Agree.blk {T : Nat → Prop} {B : Nat} {w w' : World} (h : Agree T B w w') {b : Nat} {cs : List Value} {e : TypeId} (hb : Blk w b cs e) (hT : T b) : Blk w' b cs e := hb.ext h (fun x => x.2 hT)
theorem Agree.size {T : Nat → Prop} {B : Nat} {w w' : World} (h : Agree T B w w') : w.heap.size ≤ w'.heap.size := Ext.size h
section
variable {α : Type} (P : Program) (ev : α → Value) (z : α)
def hdV (xs : List α) : Value := .tuple #[ev (xs.headD z), .bool (!xs.isEmpty)]
def Cur (nx : FuncId) (B : Nat) (T : Nat → Prop) (p : Value) (xs : List α) (w : World) : Prop :=
  ∃ I : List α → World → Prop, I xs w ∧ (∀ xs w w', I xs w → Agree T B w w' → I xs w') ∧ (∀ xs w, I xs w → Ret P nx #[p] w fun r w' => r = hdV ev z xs ∧ Ext T w w' ∧ I xs.tail w')
def Stp (B : Nat) (T : Nat → Prop) (fv : Value) (xs : List α) (w : World) : Prop :=
  ∃ I : List α → World → Prop, I xs w ∧ (∀ xs w w', I xs w → Agree T B w w' → I xs w') ∧ (∀ xs w, I xs w → YC P fv [] w fun r w' => r = hdV ev z xs ∧ Ext T w w' ∧ (xs ≠ [] → I xs.tail w'))
end
section
variable {α : Type} {P : Program} {ev : α → Value} {z : α} {nx B : Nat} {T : Nat → Prop} {p fv : Value} {xs : List α} {w w' : World}
theorem Cur.agree (h : Cur P ev z nx B T p xs w) (ha : Agree T B w w') : Cur P ev z nx B T p xs w' := by
  obtain ⟨I, h1, h2, h3⟩ := h
  exact ⟨I, h2 _ _ _ h1 ha, h2, h3⟩
theorem Cur.next (h : Cur P ev z nx B T p xs w) : Ret P nx #[p] w fun r w' => r = hdV ev z xs ∧ Ext T w w' ∧ Cur P ev z nx B T p xs.tail w' := by
  obtain ⟨I, h1, h2, h3⟩ := h
  exact (h3 _ _ h1).mono fun r w' ⟨a, b, c⟩ => ⟨a, b, I, c, h2, h3⟩
theorem Cur.ext (h : Cur P ev z nx B T p xs w) {U : Nat → Prop} (x : Ext U w w') (hU : ∀ k, k < w.heap.size → U k → B ≤ k ∧ ¬ T k) : Cur P ev z nx B T p xs w' := h.agree (Agree.of_ext x hU)
theorem Cur.keep (h : Cur P ev z nx B T p xs w) (x : Keep w w') : Cur P ev z nx B T p xs w' := h.agree (Agree.of_keep x)
theorem Stp.agree (h : Stp P ev z B T fv xs w) (ha : Agree T B w w') : Stp P ev z B T fv xs w' := by
  obtain ⟨I, h1, h2, h3⟩ := h
  exact ⟨I, h2 _ _ _ h1 ha, h2, h3⟩
theorem Stp.call (h : Stp P ev z B T fv xs w) : YC P fv [] w fun r w' => r = hdV ev z xs ∧ Ext T w w' ∧ (xs ≠ [] → Stp P ev z B T fv xs.tail w') := by
  obtain ⟨I, h1, h2, h3⟩ := h
  exact (h3 _ _ h1).mono fun r w' ⟨a, b, c⟩ => ⟨a, b, fun hn => ⟨I, c hn, h2, h3⟩⟩
theorem Cur.wide (h : Cur P ev z nx B T p xs w) {U : Nat → Prop} (hU : ∀ k, T k → U k) : Cur P ev z nx B U p xs w := by
  obtain ⟨I, h1, h2, h3⟩ := h
  exact ⟨I, h1, fun xs w w' hi ha => h2 xs w w' hi (ha.sub hU), fun xs w hi => (h3 xs w hi).mono fun r w' ⟨a, b, c⟩ => ⟨a, b.mono fun k _ hk => hU k hk, c⟩⟩
theorem Stp.wide (h : Stp P ev z B T fv xs w) {U : Nat → Prop} (hU : ∀ k, T k → U k) : Stp P ev z B U fv xs w := by
  obtain ⟨I, h1, h2, h3⟩ := h
  exact ⟨I, h1, fun xs w w' hi ha => h2 xs w w' hi (ha.sub hU), fun xs w hi => (h3 xs w hi).mono fun r w' ⟨a, b, c⟩ => ⟨a, b.mono fun k _ hk => hU k hk, c⟩⟩
theorem Cur.made {bm : Nat} {e : TypeId} (h : Stp P ev z B T fv xs w) (hb : Blk w bm [fv, .bool false] e) (hBm : B ≤ bm) (hT : ¬ T bm) (hTb : ∀ k, T k → k < w.heap.size)
    (hover : ∀ w, Blk w bm [fv, .bool true] e → Ret P nx #[.pointer (some ⟨bm, 0, none⟩)] w fun r w' => r = hdV ev z [] ∧ Keep w w')
    (hstep : ∀ (xs : List α) (w : World) (R : World → Prop), (∀ k, T k → k < w.heap.size) → Blk w bm [fv, .bool false] e → (∀ wa, Keep w wa → YC P fv [] wa fun r wc => r = hdV ev z xs ∧ Ext T wa wc ∧ R wc) →
      Ret P nx #[.pointer (some ⟨bm, 0, none⟩)] w fun r w' => r = hdV ev z xs ∧ (∃ wc, R wc ∧ Ext T w wc ∧ Ext (fun k => k = bm ∨ w.heap.size ≤ k) wc w') ∧ Blk w' bm [fv, .bool xs.isEmpty] e) :
    Cur P ev z nx B (fun k => T k ∨ k = bm) (.pointer (some ⟨bm, 0, none⟩)) xs w := by
  refine ⟨fun xs w => ((Stp P ev z B T fv xs w ∧ Blk w bm [fv, .bool false] e) ∨ (xs = [] ∧ Blk w bm [fv, .bool true] e)) ∧ ∀ k, T k → k < w.heap.size, ⟨.inl ⟨h, hb⟩, hTb⟩, ?_, ?_⟩
  · rintro xs w w' ⟨hi, hTb⟩ ha
    have ha1 := ha.sub (U := T) fun k hk => .inl hk
    have hz := ha.size
    refine ⟨?_, fun k hk => by have := hTb k hk; omega⟩
    rcases hi with ⟨h1, h2⟩ | ⟨h1, h2⟩
    · exact .inl ⟨h1.agree ha1, ha.blk h2 (.inr rfl)⟩
    · exact .inr ⟨h1, ha.blk h2 (.inr rfl)⟩
  · rintro xs w ⟨hi, hTb⟩
    rcases hi with ⟨h1, h2⟩ | ⟨rfl, h2⟩
    · have hlt := h2.lt
      refine (hstep xs w (fun wc => xs ≠ [] → Stp P ev z B T fv xs.tail wc) hTb h2 fun wa ka => (h1.agree (Agree.of_keep ka)).call).mono ?_
      rintro r w' ⟨rfl, ⟨wc, hR, hx1, hx2⟩, hB'⟩
      have hz := Nat.le_trans hx1.size hx2.size
      refine ⟨rfl, Ext.trans hx1 hx2 (fun _ _ x => .inl x) (fun k hk x => x.elim .inr fun x => by omega), ?_, fun k hk => by have := hTb k hk; omega⟩
      cases xs with
      | nil => exact .inr ⟨rfl, hB'⟩
      | cons x xs => exact .inl ⟨(hR (by simp)).agree (Agree.of_ext hx2 fun k _ hk => hk.elim (fun e => by rw [e]; exact ⟨hBm, hT⟩) (fun e => ⟨by omega, fun ht => by have := hTb k ht; omega⟩)), hB'⟩
    · refine (hover w h2).mono ?_
      rintro r w' ⟨rfl, hk⟩
      have hz := hk.size
      exact ⟨rfl, hk.mono fun _ _ h => h.elim, .inr ⟨rfl, h2.keep hk⟩, fun k ht => by have := hTb k ht; omega⟩
theorem Cur.none {bm : Nat} {e : TypeId} (hb : Blk w bm [fv, .bool true] e)
    (hover : ∀ w, Blk w bm [fv, .bool true] e → Ret P nx #[.pointer (some ⟨bm, 0, none⟩)] w fun r w' => r = hdV ev z [] ∧ Keep w w') :
    Cur P ev z nx B (fun k => k = bm) (.pointer (some ⟨bm, 0, none⟩)) [] w := by
  refine ⟨fun xs w => xs = [] ∧ Blk w bm [fv, .bool true] e, ⟨rfl, hb⟩, fun xs w w' h ha => ⟨h.1, ha.blk h.2 rfl⟩, ?_⟩
  rintro xs w ⟨rfl, h2⟩
  exact (hover w h2).mono fun r w' ⟨h1, hk⟩ => ⟨h1, hk.mono fun _ _ h => h.elim, rfl, h2.keep hk⟩
end
section
variable {P : Program} {ρ : Operand → Value} {w : World} {dst : Option Tmp} {ty : TypeId} {pos : String} {aft : Array Edge} {g : Option (Nat × Bool)}
end
section
variable {P : Program} {f : FuncId} {N : Nat} {E : Env} {w : World} {R : Out → World → Prop}
theorem unwR2 {fn : Func} {r1 r2 : ResultVar} {v1 v2 : Value} (hf : P.funcs[f]? = some fn) (hr : fn.results = #[r1, r2]) (h1 : ResOk P E w r1 v1) (h2 : ResOk P E w r2 v2) (h : R (.ret (.tuple #[v1, v2])) w) : Unw P f N .returning E [] w R :=
  unw_ret hf (fun tmps ht => by
    rw [results_sem, hr]
    simp [h1.run ht, h2.run ht]) h
end
section
variable {P : Program} {ρ : Operand → Value} {w : World} {dst : Option Tmp} {ty : TypeId} {pos : String} {aft : Array Edge} {g : Option (Nat × Bool)}
end
theorem Mine.block {α : Type} {K : Kd α} (hF : Flat K) {e : TypeId} {S : Nat → Prop} {w : World} {v : Value} {xs : List α} (h : Mine K e S 0 0 w v xs) (hS : S w.heap.size) : ∃ b A c, S b ∧ b ≤ w.heap.size ∧ v = .slice A xs.length c ∧ xs.length ≤ c ∧ Sl K b (b + 1) w A xs.length xs := by
  obtain ⟨b, ho, hb⟩ := h
  have hlt : ∀ k, b = some k → k < w.heap.size := fun k hk => ho.lt k hk
  obtain ⟨b0, h0, h1, h2⟩ : ∃ b0, S b0 ∧ b0 ≤ w.heap.size ∧ ∀ k, b = some k → k = b0 := by
    cases b with
    | none => exact ⟨w.heap.size, hS, Nat.le_refl _, fun k h => by cases h⟩
    | some b => exact ⟨b, hb b rfl, Nat.le_of_lt (hlt b rfl), fun k h => by cases h; rfl⟩
  obtain ⟨A, c, h3, h4, h5⟩ := (ho.flat hF (lo' := b0) (hi' := b0 + 1)).sl (fun k hk => by have := h2 k hk; omega)
  exact ⟨b0, A, c, h0, h1, h3, h4, h5⟩
end Go.Proofs.YtjjhddjllpihaaaGreatDoor.X
