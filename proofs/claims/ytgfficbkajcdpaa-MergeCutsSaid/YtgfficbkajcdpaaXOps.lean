/- What single operations do: the rule that a run steps through one, and the plain operations. -/
import Derived.Test.YtgfficbkajcdpaaXCore
namespace Go.Proofs.Ytgfficbkajcdpaa.X
open Go

/-- OPERATION o, its operands as ρ tells them, in world w: hands v on, in world w'. -/
def Does (P : Program) (o : Oper) (ρ : Operand → Value) (w : World) (v : Value) (w' : World) : Prop :=
  ∀ (fr : Frame) (cs : List Frame) (ops : Array Oper) (i : Nat) (rest : List Nat) (k : List Item), fr.todo = .inRegion ops (i :: rest) :: k → fr.mode = .run → ops[i]? = some o →
    Region.wanted o (yielded ops fr.tmps) = true → (∀ x, x ∈ o.op.operands → fr.eval x = ρ x) → Steps P (lone fr cs w) (lone (fr.finish v) cs w')

theorem map_eq {ρ ρ' : Operand → Value} (a : Array Operand) (h : ∀ x, x ∈ a → ρ x = ρ' x) : a.map ρ = a.map ρ' := Array.map_congr_left h
theorem opt_eq {ρ ρ' : Operand → Value} (a : Option Operand) (h : ∀ x, a = some x → ρ x = ρ' x) : a.map ρ = a.map ρ' := by
  cases a with
  | none => rfl
  | some x => simp [h x rfl]

theorem resolve_eq {ρ ρ' : Operand → Value} (c : Go.Call) (t : TypeId) (h : ∀ x, x ∈ c.operands → ρ x = ρ' x) : resolve ρ c t = resolve ρ' c t := by
  obtain ⟨cal, args, at_⟩ := c
  have ha : args.map ρ = args.map ρ' := map_eq _ fun x hx => h x (by simp only [Go.Call.operands]; exact Array.mem_append.2 (.inr hx))
  unfold resolve
  simp only [ha]
  cases cal with
  | value f => simp only [h f (by simp [Go.Call.operands])]
  | invoke r n => simp only [h r (by simp [Go.Call.operands])]
  | builtin b => rfl

/-- Neither a select, a defer nor a go. -/
def plain : Op → Bool
  | .select .. | .defer _ | .go _ => false
  | _ => true

theorem execOp_eq {ρ ρ' : Operand → Value} (o : Oper) (hp : plain o.op = true) (h : ∀ x, x ∈ o.op.operands → ρ x = ρ' x) : execOp ρ o = execOp ρ' o := by
  obtain ⟨dst, op, ty, pos, aft, g⟩ := o
  simp only at h
  cases op with
  | call c => simp only [execOp, resolve_eq c ty h]
  | go c => cases hp
  | defer c => cases hp
  | build t ps =>
    have : ps.map (fun (i, x) => (i, ρ x)) = ps.map (fun (i, x) => (i, ρ' x)) := Array.map_congr_left fun ⟨i, x⟩ hx => by
      have := h x (by simp only [Op.operands]; exact List.mem_toArray.2 (List.mem_map.2 ⟨(i, x), Array.mem_toList_iff.2 hx, rfl⟩))
      simp [this]
    simp only [execOp]; rw [this]
  | buildSlice t n ps =>
    have : ps.map (fun (i, x) => (i, ρ x)) = ps.map (fun (i, x) => (i, ρ' x)) := Array.map_congr_left fun ⟨i, x⟩ hx => by
      have := h x (by simp only [Op.operands]; exact List.mem_toArray.2 (List.mem_map.2 ⟨(i, x), Array.mem_toList_iff.2 hx, rfl⟩))
      simp [this]
    simp only [execOp]; rw [this]
  | makeFunc fn a b =>
    have h1 : a.map ρ = a.map ρ' := map_eq _ fun x hx => h x (by simp only [Op.operands]; exact Array.mem_append.2 (.inl hx))
    have h2 : b.map ρ = b.map ρ' := map_eq _ fun x hx => h x (by simp only [Op.operands]; exact Array.mem_append.2 (.inr hx))
    simp only [execOp, h1, h2]
  | makeMap t r =>
    have : r.map ρ = r.map ρ' := opt_eq _ fun x hx => h x (by subst hx; simp [Op.operands])
    simp only [execOp, this]
  | slice t x lo hi mx =>
    have h0 := h x (by simp [Op.operands])
    have h1 : lo.map ρ = lo.map ρ' := opt_eq _ fun x hx => h x (by subst hx; simp [Op.operands])
    have h2 : hi.map ρ = hi.map ρ' := opt_eq _ fun x hx => h x (by subst hx; simp [Op.operands])
    have h3 : mx.map ρ = mx.map ρ' := opt_eq _ fun x hx => h x (by subst hx; simp [Op.operands])
    simp only [execOp, h0, h1, h2, h3]
  | select cs b => cases hp
  | alloc | ready | waits => rfl
  | _ =>
    simp only [Op.operands, Array.mem_def, List.mem_cons, List.not_mem_nil, or_false] at h
    first
      | (have h1 := h _ rfl; simp only [execOp, h1])
      | (have h1 := h _ (.inl rfl); have h2 := h _ (.inr rfl); simp only [execOp, h1, h2])
      | (have h1 := h _ (.inl rfl); have h2 := h _ (.inr (.inl rfl)); have h3 := h _ (.inr (.inr rfl)); simp only [execOp, h1, h2, h3])


theorem stepG_op' {P : Program} {fr : Frame} {cs : List Frame} {w : World} {ops : Array Oper} {i : Nat} {rest : List Nat} {k : List Item} {o : Oper} (ht : fr.todo = .inRegion ops (i :: rest) :: k) (hm : fr.mode = .run) (ho : ops[i]? = some o)
    (hw : Region.wanted o (yielded ops fr.tmps) = true) (hp : plain o.op = true) :
    stepG P true { frame := fr, callers := cs, status := .running, dying := none } w = stepG.apply P true fr cs none (execOp fr.eval o) w := by
  obtain ⟨fn, tmps, todo, D, mode, kind, rd⟩ := fr
  simp only at ht hm hw
  subst ht hm
  simp only [stepG, stepG.exec, ho, Option.map_some, Option.getD_some, hw, if_true, stepG.oper, Frame.oper?]
  cases rd with
  | none => rfl
  | some l =>
    obtain ⟨dst, op, ty, pos, aft, g⟩ := o
    cases op <;> first | rfl | (cases hp)

theorem does_run {P : Program} {o : Oper} {ρ : Operand → Value} {w : World} {v : Value} {w' : World} (hp : plain o.op = true) (h : (execOp ρ o).run P w = .ok (.value v) w') : Does P o ρ w v w' := by
  intro fr cs ops i rest k ht hm ho hw he
  refine .one (step_lone_go ?_)
  rw [stepG_op' ht hm ho hw hp, execOp_eq o hp he]
  simp [stepG.apply, h]
theorem does_skip {P : Program} {o : Oper} {ρ : Operand → Value} {w : World} {w' : World} (hp : plain o.op = true) (h : (execOp ρ o).run P w = .ok .skip w') : Does P o ρ w undef w' := by
  intro fr cs ops i rest k ht hm ho hw he
  refine .one (step_lone_go ?_)
  rw [stepG_op' ht hm ho hw hp, execOp_eq o hp he]
  simp [stepG.apply, h]

/-- A call of a Go function that hands a value back. -/
theorem does_enter {P : Program} {o : Oper} {ρ : Operand → Value} {w w1 : World} {v : Value} {w' : World} {g : FuncId} {args : Array Value} (hp : plain o.op = true) (h : (execOp ρ o).run P w = .ok (.enter g args) w1)
    (hc : ∀ kind cs, ∃ fr, Steps P (lone (Frame.enter P g args kind) cs w1) (lone fr cs w') ∧ Left P g kind fr w' (.ret v)) : Does P o ρ w v w' := by
  intro fr cs ops i rest k ht hm ho hw he
  have h1 : step P (lone fr cs w) = .next (lone (Frame.enter P g args .normal) (fr :: cs) w1) := by
    refine step_lone_go ?_
    rw [stepG_op' ht hm ho hw hp, execOp_eq o hp he]
    simp only [stepG.apply, Sem.runT_eq, h, GStep.bare_after, if_true, ht]
    rfl
  obtain ⟨fr', hs, hm', hd, hk, hf, fn, hfn, hr⟩ := hc .normal (fr :: cs)
  refine .head h1 (hs.trans (.one (step_lone_go ?_)))
  simp [stepG, unwind, doReturn, hm', hd, hk, hf, hfn, hr]

section
variable {P : Program} {f : FuncId} {N : Nat} {rd : Option Nat} {k : List Item} {E : Env} {D : List Deferred} {w : World} {R : Out → World → Prop} {ops : Array Oper}

/-- What is left of a region: its operations themselves. -/
def Ops (P : Program) (f : FuncId) (N : Nat) (rd : Option Nat) (ops : Array Oper) (l : List Oper) (k : List Item) (E : Env) (D : List Deferred) (w : World) (R : Out → World → Prop) : Prop :=
  ∀ idx : List Nat, idx.map (fun i => ops[i]?) = l.map some → Run P f N rd (.inRegion ops idx :: k) E D w R

theorem region {id : Nat} {l : List Oper} (h : Ops P f N rd l.toArray l k E D w R) : Run P f N rd (.code (.region id l.toArray false) :: k) E D w R := by
  refine .of_step (todo' := .inRegion l.toArray (List.range l.toArray.size) :: k) (fun _ _ _ _ => step_lone_go (by simp [stepG, stepG.exec])) (h _ ?_)
  apply List.ext_getElem
  · simp
  · intro i h1 h2
    simp

theorem opsEnd (h : Run P f N rd k E D w R) : Ops P f N rd ops [] k E D w R := by
  intro idx hi
  have : idx = [] := by simpa using hi
  subst this
  exact .of_step (fun _ _ _ _ => step_lone_go (by simp [stepG, stepG.exec])) h

theorem finish_region (f : FuncId) (rd : Option Nat) (kind : CallKind) (tmps : Array Value) (ops : Array Oper) (i : Nat) (rest : List Nat) (k : List Item) (D : List Deferred) (o : Oper) (ho : ops[i]? = some o) (v : Value) :
    (Fm f rd kind tmps (.inRegion ops (i :: rest) :: k) D .run).finish v = Fm f rd kind (putT tmps o.dst v) (.inRegion ops rest :: k) D .run := by
  simp only [Frame.finish, ho, Option.bind_some]
  cases o.dst <;> rfl

/-- ONE OPERATION. -/
theorem opW {l : List Oper} {o : Oper} {v : Value} {w' : World} (hw : ∀ tmps, Rep N E tmps → Region.wanted o (yielded ops tmps) = true) (hd : ∀ d, o.dst = some d → d < N) (ho : Does P o E.ev w v w')
    (h : Ops P f N rd ops l k (E.put o.dst v) D w' R) : Ops P f N rd ops (o :: l) k E D w R := by
  intro idx hi
  cases idx with
  | nil => simp at hi
  | cons i rest =>
    simp only [List.map_cons, List.cons.injEq] at hi
    obtain ⟨z, w2, r, s⟩ := h rest hi.2
    refine ⟨z, w2, r, fun kind cs tmps hc ht => ?_⟩
    have h1 := ho (Fm f rd kind tmps (.inRegion ops (i :: rest) :: k) D .run) cs ops i rest k rfl rfl hi.1 (hw tmps ht) (fun x _ => by rw [frame_eval, ht.eval])
    rw [finish_region f rd kind tmps ops i rest k D o hi.1] at h1
    obtain ⟨m, h2, h3⟩ := s kind cs _ hc (ht.put' o.dst v hd)
    exact ⟨m, h1.trans h2, h3⟩

theorem blt_lt {a b : Nat} (h : Nat.blt a b = true) : a < b := by rw [Nat.blt_eq] at h; exact h
def dstOk (N : Nat) : Option Tmp → Bool
  | some d => Nat.blt d N
  | none => true
theorem dstOk.lt {N : Nat} {o : Option Tmp} (h : dstOk N o = true) : ∀ d, o = some d → d < N := by
  intro d hd
  subst hd
  exact blt_lt h

theorem op {l : List Oper} {o : Oper} {v : Value} {w' : World} (ho : Does P o E.ev w v w') (hg : o.guard = none) (hd : dstOk N o.dst = true)
    (h : Ops P f N rd ops l k (E.put o.dst v) D w' R) : Ops P f N rd ops (o :: l) k E D w R :=
  opW (fun _ _ => by simp [Region.wanted, hg]) (dstOk.lt hd) ho h

/-- An operation under a guard: the guard's slot says yes. -/
theorem opG {l : List Oper} {o : Oper} {v : Value} {w' : World} {j d : Nat} {b : Bool} (ho : Does P o E.ev w v w') (hg : o.guard = some (j, b)) (hj : (ops[j]?).bind (·.dst) = some d) (hb : E.ev (.tmp d) = .bool b) (hd : dstOk N o.dst = true) (hdN : Nat.blt d N = true)
    (h : Ops P f N rd ops l k (E.put o.dst v) D w' R) : Ops P f N rd ops (o :: l) k E D w R :=
  opW (fun tmps ht => by
    have h1 : tmps.getD d undef = .bool b := (ht.at_ d).trans hb
    have hs := ht.size
    have hlt : d < tmps.size := by rw [hs]; exact blt_lt hdN
    have h2 : tmps[d]? = some (.bool b) := by
      rw [Array.getElem?_eq_getElem hlt]
      simpa [Array.getD, hlt] using h1
    simp [Region.wanted, hg, yielded, hj, h2]) (dstOk.lt hd) ho h

/-- The guard says no: passed over. -/
theorem opS {l : List Oper} {o : Oper} {j d : Nat} {b b' : Bool} (hg : o.guard = some (j, b)) (hj : (ops[j]?).bind (·.dst) = some d) (hb : E.ev (.tmp d) = .bool b') (hne : (b' != b) = true) (hd : dstOk N o.dst = true)
    (h : Ops P f N rd ops l k (E.put o.dst undef) D w R) : Ops P f N rd ops (o :: l) k E D w R := by
  intro idx hi
  cases idx with
  | nil => simp at hi
  | cons i rest =>
    simp only [List.map_cons, List.cons.injEq] at hi
    obtain ⟨z, w2, r, s⟩ := h rest hi.2
    refine ⟨z, w2, r, fun kind cs tmps hc ht => ?_⟩
    have hw : Region.wanted o (yielded ops tmps) = false := by
      have h1 : tmps.getD d undef = .bool b' := (ht.at_ d).trans hb
      simp only [Region.wanted, hg, yielded, hj, Option.bind_some]
      by_cases hlt : d < tmps.size
      · have h2 : tmps[d]? = some (.bool b') := by
          rw [Array.getElem?_eq_getElem hlt]
          simpa [Array.getD, hlt] using h1
        rw [h2]
        cases b <;> cases b' <;> first | rfl | simp at hne
      · rw [Array.getElem?_eq_none (by omega)]
        rfl
    obtain ⟨m, h2, h3⟩ := s kind cs _ hc (ht.put' o.dst undef (dstOk.lt hd))
    refine ⟨m, .head (step_lone_go ?_) h2, h3⟩
    rw [← finish_region f rd kind tmps ops i rest k D o hi.1]
    simp [stepG, stepG.exec, hi.1, hw]

/-- A slot that holds a Bool: both ways, the slot written out. -/
theorem lk_put (b : Nat → Value) (l : List (Nat × Value)) (d : Nat) (t : Nat) : lk b ((d, lk b l d) :: l) t = lk b l t := by
  show (match Nat.beq d t with | true => lk b l d | false => lk b l t) = _
  cases h : Nat.beq d t
  · rfl
  · rw [Nat.eq_of_beq_eq_true h]
theorem Ops.env {l : List Oper} {E E' : Env} (he : ∀ t, E.at_ t = E'.at_ t) (h : Ops P f N rd ops l k E' D w R) : Ops P f N rd ops l k E D w R := fun idx hi => Run.env he (h idx hi)
theorem forkO {l : List Oper} (d : Nat) {b : Bool} (hb : E.ev (.tmp d) = .bool b) (h1 : b = true → Ops P f N rd ops l k (E.put (some d) (.bool true)) D w R) (h0 : b = false → Ops P f N rd ops l k (E.put (some d) (.bool false)) D w R) : Ops P f N rd ops l k E D w R := by
  have he : ∀ t, E.at_ t = (E.put (some d) (.bool b)).at_ t := fun t => by
    show _ = lk E.b ((d, _) :: E.l) t
    rw [← hb]
    exact (lk_put E.b E.l d t).symm
  cases b with
  | true => exact Ops.env he (h1 rfl)
  | false => exact Ops.env he (h0 rfl)
end
end Go.Proofs.Ytgfficbkajcdpaa.X
