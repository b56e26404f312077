/- Texts that the proof of MergeNone stands on, part 1. -/
import Derived.WalkKit
import Derived.Maps.AppendAt
import Derived.Laws.AppendOwnNone
import Derived.Lib.ConvBytes
import Derived.Laws.BytesArg
import Derived.Laws.CopyRow
import Derived.Orders
import Derived.Great.FillDense
import Derived.Laws.Tables
import Derived.Laws.Cover3
import Derived.WideLaws
import Derived.Laws.OwnMore
import Derived.RangeFuncRecord
import Derived.Test.YtgfficbkajcdpaaProg

namespace Go.Proofs.Ytgfficbkajcdpaa.X
open Go

/-! ### 1. Slots -/
/-- The slots of a frame: what was written last stands first; 'b': what is not known. -/
structure Env where
  l : List (Nat × Value)
  b : Nat → Value

def lk (b : Nat → Value) : List (Nat × Value) → Nat → Value
  | [], t => b t
  | (d, v) :: l, t => match Nat.beq d t with
    | true => v
    | false => lk b l t

def Env.at_ (E : Env) (t : Nat) : Value := lk E.b E.l t
def Env.ev (E : Env) : Operand → Value
  | .tmp t => lk E.b E.l t
  | .const v => v
  | .global g => .pointer (some ⟨g, 0, none⟩)
  | .func f => .func (.func f) #[] #[]
def Env.put (E : Env) : Option Tmp → Value → Env
  | some d, v => ⟨(d, v) :: E.l, E.b⟩
  | none, _ => E

/-- 'tmps' reads as E. -/
structure Rep (N : Nat) (E : Env) (tmps : Array Value) : Prop where
  size : tmps.size = N
  at_ : ∀ t, tmps.getD t undef = E.at_ t

theorem Rep.put {N : Nat} {E : Env} {tmps : Array Value} (h : Rep N E tmps) (d : Tmp) (v : Value) (hd : d < N) : Rep N (E.put (some d) v) (tmps.setIfInBounds d v) := by
  refine ⟨by simp [h.size], fun t => ?_⟩
  have hs := h.size
  show _ = lk E.b ((d, v) :: E.l) t
  unfold lk
  by_cases e : d = t
  · subst e
    have : Nat.beq d d = true := Nat.beq_refl d
    rw [this]
    simp [Array.getD, hs, hd]
  · have : Nat.beq d t = false := by
      cases hb : Nat.beq d t
      · rfl
      · exact absurd (Nat.eq_of_beq_eq_true hb) e
    rw [this]
    have := h.at_ t
    show _ = lk E.b E.l t
    rw [show lk E.b E.l t = E.at_ t from rfl, ← this]
    simp only [Array.getD, Array.size_setIfInBounds]
    split
    · rename_i hlt
      exact Array.getElem_setIfInBounds_ne hlt e
    · rfl

def putT (tmps : Array Value) : Option Tmp → Value → Array Value
  | some d, v => tmps.setIfInBounds d v
  | none, _ => tmps
theorem Rep.put' {N : Nat} {E : Env} {tmps : Array Value} (h : Rep N E tmps) (dst : Option Tmp) (v : Value) (hd : ∀ d, dst = some d → d < N) :
    Rep N (E.put dst v) (putT tmps dst v) := by
  cases dst with
  | none => exact h
  | some d => exact h.put d v (hd d rfl)

def eval (tmps : Array Value) : Operand → Value
  | .tmp t => tmps.getD t undef
  | .const v => v
  | .global g => .pointer (some ⟨g, 0, none⟩)
  | .func f => .func (.func f) #[] #[]
theorem Rep.eval {N : Nat} {E : Env} {tmps : Array Value} (h : Rep N E tmps) : X.eval tmps = E.ev := by
  funext x
  cases x with
  | tmp t => exact h.at_ t
  | _ => rfl
theorem frame_eval (fr : Frame) : fr.eval = X.eval fr.tmps := by
  funext x
  cases x <;> rfl

/-! ### 2. What a run comes to -/
inductive Out where
  | ret (v : Value)
  | pan (chain : List PanicEntry)

/-- The frame fr stands at its end: it hands v back, or the panic goes on. -/
def Left (P : Program) (f : FuncId) (kind : CallKind) (fr : Frame) (w : World) : Out → Prop
  | .ret v => fr.mode = .returning ∧ fr.defers = [] ∧ fr.kind = kind ∧ fr.fn = f ∧ ∃ fn, P.funcs[f]? = some fn ∧ (results fn fr.tmps).run P w = .ok v w
  | .pan chain => fr.mode = .panicking chain ∧ fr.defers = [] ∧ fr.kind = kind ∧ fr.fn = f ∧ ∃ fn, P.funcs[f]? = some fn

/-- Where a frame's run is to come: a function's frame (rd = none), a round's frame of a range over a function (rd = some l). -/
def Tgt (P : Program) (f : FuncId) (rd : Option Nat) (o : Out) (w : World) (kind : CallKind) (cs : List Frame) (m : Machine) : Prop :=
  match rd with
  | none => ∃ fr, m = lone fr cs w ∧ Left P f kind fr w o
  | some _ => ∀ c cs', cs = c :: cs' → m = lone (match o with | .ret v => c.finish v | .pan ch => c.raise ch) cs' w

abbrev Fm (f : FuncId) (rd : Option Nat) (kind : CallKind) (tmps : Array Value) (todo : List Item) (D : List Deferred) (mode : FrameMode) : Frame :=
  { fn := f, tmps, todo, defers := D, mode, kind, roundOf := rd }

/-- Which callers are spoken of: a round's frame always has one, and is called in the ordinary way. -/
def CsOk (rd : Option Nat) (kind : CallKind) (cs : List Frame) : Prop := rd ≠ none → kind = .normal ∧ cs ≠ []

/-- THE RUN of 'todo' in the slots E comes to an end of which R tells. -/
def Run (P : Program) (f : FuncId) (N : Nat) (rd : Option Nat) (todo : List Item) (E : Env) (D : List Deferred) (w : World) (R : Out → World → Prop) : Prop :=
  ∃ o w', R o w' ∧ ∀ kind cs tmps, CsOk rd kind cs → Rep N E tmps → ∃ m, Steps P (lone (Fm f rd kind tmps todo D .run) cs w) m ∧ Tgt P f rd o w' kind cs m

/-- The same for a frame that unwinds: its deferred calls are still to be made. -/
def Unw (P : Program) (f : FuncId) (N : Nat) (mode : FrameMode) (E : Env) (D : List Deferred) (w : World) (R : Out → World → Prop) : Prop :=
  ∃ o w', R o w' ∧ ∀ kind cs tmps todo, Rep N E tmps → ∃ fr, Steps P (lone (Fm f none kind tmps todo D mode) cs w) (lone fr cs w') ∧ Left P f kind fr w' o

/-- A CALL of f. -/
def Call (P : Program) (f : FuncId) (args : Array Value) (w : World) (R : Out → World → Prop) : Prop :=
  ∃ o w', R o w' ∧ ∀ kind cs, ∃ fr, Steps P (lone (Frame.enter P f args kind) cs w) (lone fr cs w') ∧ Left P f kind fr w' o

/-- A call that hands a value back. -/
def Ret (P : Program) (f : FuncId) (args : Array Value) (w : World) (R : Value → World → Prop) : Prop :=
  Call P f args w fun o w' => match o with | .ret v => R v w' | .pan _ => False

theorem Run.mono {P : Program} {f : FuncId} {N : Nat} {rd : Option Nat} {todo : List Item} {E : Env} {D : List Deferred} {w : World} {R R' : Out → World → Prop}
    (h : Run P f N rd todo E D w R) (hr : ∀ o w', R o w' → R' o w') : Run P f N rd todo E D w R' :=
  let ⟨o, w', r, s⟩ := h; ⟨o, w', hr _ _ r, s⟩
theorem Call.mono {P : Program} {f : FuncId} {args : Array Value} {w : World} {R R' : Out → World → Prop} (h : Call P f args w R) (hr : ∀ o w', R o w' → R' o w') : Call P f args w R' :=
  let ⟨o, w', r, s⟩ := h; ⟨o, w', hr _ _ r, s⟩
theorem Ret.mono {P : Program} {f : FuncId} {args : Array Value} {w : World} {R R' : Value → World → Prop} (h : Ret P f args w R) (hr : ∀ v w', R v w' → R' v w') : Ret P f args w R' :=
  Call.mono h fun o w' => by cases o with | ret v => exact hr v w' | pan _ => exact id
theorem Ret.call {P : Program} {f : FuncId} {args : Array Value} {w : World} {R : Value → World → Prop} (h : Ret P f args w R) : ∃ v w', R v w' ∧ ∀ kind cs, ∃ fr, Steps P (lone (Frame.enter P f args kind) cs w) (lone fr cs w') ∧ Left P f kind fr w' (.ret v) := by
  obtain ⟨o, w', r, s⟩ := h
  cases o with
  | ret v => exact ⟨v, w', r, s⟩
  | pan ch => exact r.elim

/-- To the guide's own word. -/
theorem Call.calls {P : Program} {f : FuncId} {args : Array Value} {w : World} {R : Out → World → Prop} (h : Call P f args w R) :
    Calls P f args w fun e w' => match e with | .returned v => R (.ret v) w' | .panicked ch => R (.pan ch) w' | .outgrown => False := by
  obtain ⟨o, w', r, s⟩ := h
  intro cs
  obtain ⟨fr, hs, hl⟩ := s .normal cs
  cases o with
  | ret v =>
    obtain ⟨h1, h2, h3, h4, fn, h5, h6⟩ := hl
    exact ⟨.returned v, w', fr, r, hs, h4, h1, h2, h3, fn, h4 ▸ h5, h6⟩
  | pan ch =>
    obtain ⟨h1, h2, h3, h4, fn, h5⟩ := hl
    exact ⟨.panicked ch, w', fr, r, hs, h4, h1, h2, fn, h4 ▸ h5⟩
theorem Ret.calls {P : Program} {f : FuncId} {args : Array Value} {w : World} {R : Value → World → Prop} (h : Ret P f args w R) :
    Calls P f args w fun e w' => ∃ v, e = .returned v ∧ R v w' :=
  (Call.calls h).mono fun e w' hr => by
    cases e with
    | returned v => exact ⟨v, rfl, hr⟩
    | panicked ch => exact hr.elim
    | outgrown => exact hr.elim

/-! ### 3. Steps of control -/
section
variable {P : Program} {f : FuncId} {N : Nat} {rd : Option Nat} {k : List Item} {E : Env} {D : List Deferred} {w : World} {R : Out → World → Prop}

/-- One step that turns nothing but what is to do. -/
theorem Run.of_step {todo todo' : List Item} (hs : ∀ kind cs tmps, Rep N E tmps → step P (lone (Fm f rd kind tmps todo D .run) cs w) = .next (lone (Fm f rd kind tmps todo' D .run) cs w))
    (h : Run P f N rd todo' E D w R) : Run P f N rd todo E D w R := by
  obtain ⟨o, w', r, s⟩ := h
  refine ⟨o, w', r, fun kind cs tmps hc ht => ?_⟩
  obtain ⟨m, h1, h2⟩ := s kind cs tmps hc ht
  exact ⟨m, .head (hs kind cs tmps ht) h1, h2⟩

theorem skip (h : Run P f N rd k E D w R) : Run P f N rd (.code .skip :: k) E D w R :=
  .of_step (fun _ _ _ _ => step_lone_go (by simp [stepG, stepG.exec])) h
theorem label {l : Nat} (h : Run P f N rd k E D w R) : Run P f N rd (.code (.label l) :: k) E D w R :=
  .of_step (fun _ _ _ _ => step_lone_go (by simp [stepG, stepG.exec])) h
theorem inBlock {id : Nat} (h : Run P f N rd k E D w R) : Run P f N rd (.inBlock id :: k) E D w R :=
  .of_step (fun _ _ _ _ => step_lone_go (by simp [stepG, stepG.exec])) h
theorem inScope {c : Code} (h : Run P f N rd k E D w R) : Run P f N rd (.inScope c :: k) E D w R :=
  .of_step (fun _ _ _ _ => step_lone_go (by simp [stepG, stepG.exec])) h
theorem seq {a b : Code} (h : Run P f N rd (.code a :: .code b :: k) E D w R) : Run P f N rd (.code (.seq a b) :: k) E D w R :=
  .of_step (fun _ _ _ _ => step_lone_go (by simp [stepG, stepG.exec])) h
theorem block {id : Nat} {c : Code} (h : Run P f N rd (.code c :: .inBlock id :: k) E D w R) : Run P f N rd (.code (.block id c) :: k) E D w R :=
  .of_step (fun _ _ _ _ => step_lone_go (by simp [stepG, stepG.exec])) h
theorem scope {c : Code} (h : Run P f N rd (.code c :: .inScope c :: k) E D w R) : Run P f N rd (.code (.scope c) :: k) E D w R :=
  .of_step (fun _ _ _ _ => step_lone_go (by simp [stepG, stepG.exec])) h
theorem loop1 {c : Code} (h : Run P f N rd (.code c :: .inLoop c :: k) E D w R) : Run P f N rd (.code (.loop c) :: k) E D w R :=
  .of_step (fun _ _ _ _ => step_lone_go (by simp [stepG, stepG.exec])) h
theorem loop2 {c : Code} (h : Run P f N rd (.code c :: .inLoop c :: k) E D w R) : Run P f N rd (.inLoop c :: k) E D w R :=
  .of_step (fun _ _ _ _ => step_lone_go (by simp [stepG, stepG.exec])) h
theorem exit {id : Nat} {k' : List Item} (hk : exitTo id k = some k') (h : Run P f N rd k' E D w R) : Run P f N rd (.code (.exit id) :: k) E D w R :=
  .of_step (fun _ _ _ _ => step_lone_go (by simp [stepG, stepG.exec, hk])) h
theorem goto {l : Nat} {k' : List Item} (hk : gotoIn l k = some k') (h : Run P f N rd k' E D w R) : Run P f N rd (.code (.goto l) :: k) E D w R :=
  .of_step (fun _ _ _ _ => step_lone_go (by simp [stepG, stepG.exec, hk])) h
theorem cond {c : Operand} {a b : Code} {t : Bool} (hc : E.ev c = .bool t) (h : Run P f N rd (.code (if t then a else b) :: k) E D w R) : Run P f N rd (.code (.cond c a b) :: k) E D w R := by
  refine .of_step (todo' := .code (if t then a else b) :: k) (fun kind cs tmps ht => step_lone_go ?_) h
  have : (Fm f rd kind tmps (.code (.cond c a b) :: k) D .run).eval c = .bool t := by rw [frame_eval, ht.eval, hc]
  simp only [stepG, stepG.exec, this, GStep.bare_go]
theorem condT {c : Operand} {a b : Code} (hc : E.ev c = .bool true) (h : Run P f N rd (.code a :: k) E D w R) : Run P f N rd (.code (.cond c a b) :: k) E D w R := cond hc h
theorem condF {c : Operand} {a b : Code} (hc : E.ev c = .bool false) (h : Run P f N rd (.code b :: k) E D w R) : Run P f N rd (.code (.cond c a b) :: k) E D w R := cond hc h
/-- Both ways. -/
theorem condB {c : Operand} {a b : Code} {t : Bool} (hc : E.ev c = .bool t) (h1 : t = true → Run P f N rd (.code a :: k) E D w R) (h0 : t = false → Run P f N rd (.code b :: k) E D w R) : Run P f N rd (.code (.cond c a b) :: k) E D w R := by
  cases t with
  | true => exact cond hc (h1 rfl)
  | false => exact cond hc (h0 rfl)
theorem condP {c : Operand} {a b : Code} {p : Prop} [Decidable p] (hc : E.ev c = .bool (decide p)) (h1 : p → Run P f N rd (.code a :: k) E D w R) (h0 : ¬ p → Run P f N rd (.code b :: k) E D w R) : Run P f N rd (.code (.cond c a b) :: k) E D w R :=
  condB hc (fun h => h1 (of_decide_eq_true h)) (fun h => h0 (of_decide_eq_false h))

/-! ### 4. The end of a function -/
theorem ret_unw {f : FuncId} (h : Unw P f N .returning E D w R) : Run P f N none (.code .ret :: k) E D w R := by
  obtain ⟨o, w', r, s⟩ := h
  refine ⟨o, w', r, fun kind cs tmps _ ht => ?_⟩
  obtain ⟨fr, h1, h2⟩ := s kind cs tmps (.code .ret :: k) ht
  exact ⟨_, .head (step_lone_go (by simp [stepG, stepG.exec])) h1, fr, rfl, h2⟩
theorem end_unw {f : FuncId} (h : Unw P f N .returning E D w R) : Run P f N none [] E D w R := by
  obtain ⟨o, w', r, s⟩ := h
  refine ⟨o, w', r, fun kind cs tmps _ ht => ?_⟩
  obtain ⟨fr, h1, h2⟩ := s kind cs tmps [] ht
  exact ⟨_, .head (step_lone_go (by simp [stepG, stepG.exec])) h1, fr, rfl, h2⟩
theorem unw_ret {fn : Func} {v : Value} (hf : P.funcs[f]? = some fn) (hr : ∀ tmps, Rep N E tmps → (results fn tmps).run P w = .ok v w) (h : R (.ret v) w) : Unw P f N .returning E [] w R :=
  ⟨.ret v, w, h, fun _ _ tmps _ ht => ⟨_, .refl _ _, rfl, rfl, rfl, rfl, fn, hf, hr tmps ht⟩⟩
theorem unw_pan {fn : Func} {ch : List PanicEntry} (hf : P.funcs[f]? = some fn) (h : R (.pan ch) w) : Unw P f N (.panicking ch) E [] w R :=
  ⟨.pan ch, w, h, fun _ _ _ _ _ => ⟨_, .refl _ _, rfl, rfl, rfl, rfl, fn, hf⟩⟩

theorem res0 {fn : Func} (h : fn.results = #[]) (tmps : Array Value) (P : Program) (w : World) : (results fn tmps).run P w = .ok (.tuple #[]) w := results_none h tmps P w
theorem ret0 {fn : Func} (hf : P.funcs[f]? = some fn) (hr : fn.results = #[]) (h : R (.ret (.tuple #[])) w) : Run P f N none (.code .ret :: k) E [] w R :=
  ret_unw (unw_ret hf (fun tmps _ => results_none hr tmps P w) h)
theorem end0 {fn : Func} (hf : P.funcs[f]? = some fn) (hr : fn.results = #[]) (h : R (.ret (.tuple #[])) w) : Run P f N none [] E [] w R :=
  end_unw (unw_ret hf (fun tmps _ => results_none hr tmps P w) h)
theorem ret1 {fn : Func} {t : Tmp} {v : Value} (hf : P.funcs[f]? = some fn) (hr : fn.results = #[.tmp t]) (hv : E.ev (.tmp t) = v) (h : R (.ret v) w) : Run P f N none (.code .ret :: k) E [] w R :=
  ret_unw (unw_ret hf (fun tmps ht => by rw [results_tmp hr, ht.at_ t, ← hv]; rfl) h)
theorem ret2 {fn : Func} {t1 t2 : Tmp} {v1 v2 : Value} (hf : P.funcs[f]? = some fn) (hr : fn.results = #[.tmp t1, .tmp t2]) (h1 : E.ev (.tmp t1) = v1) (h2 : E.ev (.tmp t2) = v2) (h : R (.ret (.tuple #[v1, v2])) w) :
    Run P f N none (.code .ret :: k) E [] w R :=
  ret_unw (unw_ret hf (fun tmps ht => by rw [results_tmp2 hr, ht.at_ t1, ht.at_ t2, ← h1, ← h2]; rfl) h)
theorem ret3 {fn : Func} {t1 t2 t3 : Tmp} {v1 v2 v3 : Value} (hf : P.funcs[f]? = some fn) (hr : fn.results = #[.tmp t1, .tmp t2, .tmp t3]) (h1 : E.ev (.tmp t1) = v1) (h2 : E.ev (.tmp t2) = v2) (h3 : E.ev (.tmp t3) = v3)
    (h : R (.ret (.tuple #[v1, v2, v3])) w) : Run P f N none (.code .ret :: k) E [] w R :=
  ret_unw (unw_ret hf (fun tmps ht => by
    have : (results fn tmps).run P w = .ok (.tuple #[tmps.getD t1 undef, tmps.getD t2 undef, tmps.getD t3 undef]) w := by simp [results, hr]
    rw [this, ht.at_ t1, ht.at_ t2, ht.at_ t3, ← h1, ← h2, ← h3]; rfl) h)

/-- Into a function. -/
def argL : List Value → Nat → List (Nat × Value)
  | [], _ => []
  | v :: vs, i => (i, v) :: argL vs (i + 1)
def Env.enter (args : List Value) : Env := ⟨argL args 0, fun _ => undef⟩
theorem lk_argL (b : Nat → Value) : ∀ (vs : List Value) (i t : Nat), lk b (argL vs i) t = if i ≤ t ∧ t < i + vs.length then vs.getD (t - i) undef else b t
  | [], i, t => by simp [argL, lk]; omega
  | v :: vs, i, t => by
    unfold argL lk
    by_cases e : i = t
    · subst e
      rw [Nat.beq_refl]
      simp
    · have : Nat.beq i t = false := by
        cases hb : Nat.beq i t
        · rfl
        · exact absurd (Nat.eq_of_beq_eq_true hb) e
      rw [this]
      show lk b (argL vs (i + 1)) t = _
      rw [lk_argL b vs (i + 1) t]
      by_cases h : i + 1 ≤ t ∧ t < i + 1 + vs.length
      · rw [if_pos h, if_pos (by simp; omega)]
        rw [show t - i = (t - (i + 1)) + 1 by omega]
        simp
      · rw [if_neg h, if_neg (by simp; omega)]

theorem Rep.enter (N : Nat) (args : List Value) (h : args.length ≤ N) : Rep N (Env.enter args) (args.toArray ++ Array.replicate (N - args.toArray.size) undef) := by
  refine ⟨by simp; omega, fun t => ?_⟩
  show _ = lk _ (argL args 0) t
  rw [lk_argL]
  simp only [Array.getD]
  by_cases h1 : t < args.length
  · rw [if_pos (by omega), dif_pos (by simp; omega)]
    simp [h1, List.getD_eq_getElem?_getD]
  · rw [if_neg (by omega)]
    split
    · simp [Array.getElem_append, h1, Env.enter]
    · rfl

theorem enter {fn : Func} {c : Code} {args : List Value} {N : Nat} (hf : P.funcs[f]? = some fn) (hb : fn.body = some c) (hN : fn.ntmps = N) (hl : Nat.ble args.length N = true)
    (h : Run P f N none [.code c] (Env.enter args) [] w R) : Call P f args.toArray w R := by
  obtain ⟨o, w', r, s⟩ := h
  refine ⟨o, w', r, fun kind cs => ?_⟩
  have hent : Frame.enter P f args.toArray kind = Fm f none kind (args.toArray ++ Array.replicate (N - args.toArray.size) undef) [.code c] [] .run := by
    simp [Frame.enter, hf, hb, hN]
  obtain ⟨m, h1, fr, rfl, h2⟩ := s kind cs _ (fun h => absurd rfl h) (Rep.enter N args (Nat.le_of_ble_eq_true hl))
  exact ⟨fr, hent ▸ h1, h2⟩

/-! ### 5. Loops: 'k' knows, in each round, that the loop's head is good at every smaller state -/
theorem loop {c : Code} {σ : Type} (I : σ → Env → World → Prop) (μ : σ → Nat) (s0 : σ) (h0 : I s0 E w)
    (h : ∀ s E' w', I s E' w' → (∀ s' E'' w'', I s' E'' w'' → μ s' < μ s → Run P f N rd (.inLoop c :: k) E'' D w'' R) → Run P f N rd (.code c :: .inLoop c :: k) E' D w' R) :
    Run P f N rd (.code (.loop c) :: k) E D w R := by
  have key : ∀ n s E' w', μ s = n → I s E' w' → Run P f N rd (.code c :: .inLoop c :: k) E' D w' R := by
    intro n
    induction n using Nat.strongRecOn with
    | _ n ih =>
      intro s E' w' hn hi
      exact h s E' w' hi fun s' E'' w'' hi' hlt => loop2 (ih (μ s') (hn ▸ hlt) s' E'' w'' rfl hi')
  exact loop1 (key _ s0 E w rfl h0)

/-- Two lists of slots read alike. -/
theorem Run.env {todo : List Item} {E E' : Env} (he : ∀ t, E.at_ t = E'.at_ t) (h : Run P f N rd todo E' D w R) : Run P f N rd todo E D w R := by
  obtain ⟨o, w', r, s⟩ := h
  exact ⟨o, w', r, fun kind cs tmps hc ht => s kind cs tmps hc ⟨ht.size, fun t => (ht.at_ t).trans (he t)⟩⟩

/-- Only the slots that are named are still known. -/
theorem lk_over (b : Nat → Value) (L : List (Nat × Value)) (g : Nat → Value) (h : ∀ p, p ∈ L → g p.1 = p.2) (hb : ∀ t, b t = g t) : ∀ t, lk b L t = g t := by
  intro t
  induction L with
  | nil => exact hb t
  | cons p L ih =>
    obtain ⟨d, v⟩ := p
    unfold lk
    cases hbq : Nat.beq d t
    · exact ih fun p hp => h p (List.mem_cons_of_mem _ hp)
    · have := Nat.eq_of_beq_eq_true hbq
      subst this
      exact (h (d, v) (List.mem_cons_self ..)).symm

/-- A list of slots holds in E. -/
def Holds (E : Env) : List (Nat × Value) → Prop
  | [] => True
  | (d, v) :: l => lk E.b E.l d = v ∧ Holds E l
theorem Holds.mem {E : Env} : ∀ {L : List (Nat × Value)}, Holds E L → ∀ p, p ∈ L → E.at_ p.1 = p.2
  | [], _, p, hp => by cases hp
  | (d, v) :: l, h, p, hp => by
    rcases List.mem_cons.1 hp with rfl | hp
    · exact h.1
    · exact Holds.mem h.2 p hp
/-- The slots are told anew: those of L; of the others nothing. -/
theorem forget (L : List (Nat × Value)) (hL : Holds E L) {todo : List Item} (h : ∀ b, Run P f N rd todo ⟨L, b⟩ D w R) : Run P f N rd todo E D w R :=
  Run.env (E' := ⟨L, E.at_⟩) (fun t => (lk_over E.at_ L E.at_ hL.mem (fun _ => rfl) t).symm) (h E.at_)

/-- THE LOOP's RULE: at each round's head the slots are 'enc s' (and nothing is known of the others), 'I s' holds of the world. -/
theorem loopL {c : Code} {σ : Type} (enc : σ → List (Nat × Value)) (I : σ → World → Prop) (μ : σ → Nat) (s0 : σ) (he : Holds E (enc s0)) (h0 : I s0 w)
    (h : ∀ s b w', I s w' → (∀ s' E'' w'', Holds E'' (enc s') → I s' w'' → μ s' < μ s → Run P f N rd (.inLoop c :: k) E'' D w'' R) → Run P f N rd (.code c :: .inLoop c :: k) ⟨enc s, b⟩ D w' R) :
    Run P f N rd (.code (.loop c) :: k) E D w R :=
  forget (enc s0) he fun b => loop (fun s E w => (∃ b, E = ⟨enc s, b⟩) ∧ I s w) μ s0 ⟨⟨b, rfl⟩, h0⟩ fun s E' w' hi hk => by
    obtain ⟨⟨b, rfl⟩, hi⟩ := hi
    exact h s b w' hi fun s' E'' w'' hh hi' hlt => forget (enc s') hh fun b' => hk s' _ w'' ⟨⟨b', rfl⟩, hi'⟩ hlt

end
end Go.Proofs.Ytgfficbkajcdpaa.X

namespace Go.Proofs.Ytgfficbkajcdpaa.X
open Go

/-- OPERATION o, its operands as ρ tells them, in world w: hands v on, in world w'. -/
def Does (P : Program) (o : Oper) (ρ : Operand → Value) (w : World) (v : Value) (w' : World) : Prop :=
  ∀ (fr : Frame) (cs : List Frame) (ops : Array Oper) (i : Nat) (rest : List Nat) (k : List Item), fr.todo = .inRegion ops (i :: rest) :: k → fr.mode = .run → ops[i]? = some o →
    Region.wanted o (yielded ops fr.tmps) = true → (∀ x, x ∈ o.op.operands → fr.eval x = ρ x) → Steps P (lone fr cs w) (lone (fr.finish v) cs w')

theorem map_eq {ρ ρ' : Operand → Value} (a : Array Operand) (h : ∀ x, x ∈ a → ρ x = ρ' x) : a.map ρ = a.map ρ' := Array.map_congr_left h
theorem opt_eq {ρ ρ' : Operand → Value} (a : Option Operand) (h : ∀ x, a = some x → ρ x = ρ' x) : a.map ρ = a.map ρ' := by
  cases a with
  | none => rfl
  | some x => simp [h x rfl]

theorem resolve_eq {ρ ρ' : Operand → Value} (c : Go.Call) (t : TypeId) (h : ∀ x, x ∈ c.operands → ρ x = ρ' x) : resolve ρ c t = resolve ρ' c t := by
  obtain ⟨cal, args, at_⟩ := c
  have ha : args.map ρ = args.map ρ' := map_eq _ fun x hx => h x (by simp only [Go.Call.operands]; exact Array.mem_append.2 (.inr hx))
  unfold resolve
  simp only [ha]
  cases cal with
  | value f => simp only [h f (by simp [Go.Call.operands])]
  | invoke r n => simp only [h r (by simp [Go.Call.operands])]
  | builtin b => rfl

/-- Neither a select, a defer nor a go. -/
def plain : Op → Bool
  | .select .. | .defer _ | .go _ => false
  | _ => true

theorem execOp_eq {ρ ρ' : Operand → Value} (o : Oper) (hp : plain o.op = true) (h : ∀ x, x ∈ o.op.operands → ρ x = ρ' x) : execOp ρ o = execOp ρ' o := by
  obtain ⟨dst, op, ty, pos, aft, g⟩ := o
  simp only at h
  cases op with
  | call c => simp only [execOp, resolve_eq c ty h]
  | go c => cases hp
  | defer c => cases hp
  | build t ps =>
    have : ps.map (fun (i, x) => (i, ρ x)) = ps.map (fun (i, x) => (i, ρ' x)) := Array.map_congr_left fun ⟨i, x⟩ hx => by
      have := h x (by simp only [Op.operands]; exact List.mem_toArray.2 (List.mem_map.2 ⟨(i, x), Array.mem_toList_iff.2 hx, rfl⟩))
      simp [this]
    simp only [execOp]; rw [this]
  | buildSlice t n ps =>
    have : ps.map (fun (i, x) => (i, ρ x)) = ps.map (fun (i, x) => (i, ρ' x)) := Array.map_congr_left fun ⟨i, x⟩ hx => by
      have := h x (by simp only [Op.operands]; exact List.mem_toArray.2 (List.mem_map.2 ⟨(i, x), Array.mem_toList_iff.2 hx, rfl⟩))
      simp [this]
    simp only [execOp]; rw [this]
  | makeFunc fn a b =>
    have h1 : a.map ρ = a.map ρ' := map_eq _ fun x hx => h x (by simp only [Op.operands]; exact Array.mem_append.2 (.inl hx))
    have h2 : b.map ρ = b.map ρ' := map_eq _ fun x hx => h x (by simp only [Op.operands]; exact Array.mem_append.2 (.inr hx))
    simp only [execOp, h1, h2]
  | makeMap t r =>
    have : r.map ρ = r.map ρ' := opt_eq _ fun x hx => h x (by subst hx; simp [Op.operands])
    simp only [execOp, this]
  | slice t x lo hi mx =>
    have h0 := h x (by simp [Op.operands])
    have h1 : lo.map ρ = lo.map ρ' := opt_eq _ fun x hx => h x (by subst hx; simp [Op.operands])
    have h2 : hi.map ρ = hi.map ρ' := opt_eq _ fun x hx => h x (by subst hx; simp [Op.operands])
    have h3 : mx.map ρ = mx.map ρ' := opt_eq _ fun x hx => h x (by subst hx; simp [Op.operands])
    simp only [execOp, h0, h1, h2, h3]
  | select cs b => cases hp
  | alloc | ready | waits => rfl
  | _ =>
    simp only [Op.operands, Array.mem_def, List.mem_cons, List.not_mem_nil, or_false] at h
    first
      | (have h1 := h _ rfl; simp only [execOp, h1])
      | (have h1 := h _ (.inl rfl); have h2 := h _ (.inr rfl); simp only [execOp, h1, h2])
      | (have h1 := h _ (.inl rfl); have h2 := h _ (.inr (.inl rfl)); have h3 := h _ (.inr (.inr rfl)); simp only [execOp, h1, h2, h3])


theorem stepG_op' {P : Program} {fr : Frame} {cs : List Frame} {w : World} {ops : Array Oper} {i : Nat} {rest : List Nat} {k : List Item} {o : Oper} (ht : fr.todo = .inRegion ops (i :: rest) :: k) (hm : fr.mode = .run) (ho : ops[i]? = some o)
    (hw : Region.wanted o (yielded ops fr.tmps) = true) (hp : plain o.op = true) :
    stepG P true { frame := fr, callers := cs, status := .running, dying := none } w = stepG.apply P true fr cs none (execOp fr.eval o) w := by
  obtain ⟨fn, tmps, todo, D, mode, kind, rd⟩ := fr
  simp only at ht hm hw
  subst ht hm
  simp only [stepG, stepG.exec, ho, Option.map_some, Option.getD_some, hw, if_true, stepG.oper, Frame.oper?]
  cases rd with
  | none => rfl
  | some l =>
    obtain ⟨dst, op, ty, pos, aft, g⟩ := o
    cases op <;> first | rfl | (cases hp)

theorem does_run {P : Program} {o : Oper} {ρ : Operand → Value} {w : World} {v : Value} {w' : World} (hp : plain o.op = true) (h : (execOp ρ o).run P w = .ok (.value v) w') : Does P o ρ w v w' := by
  intro fr cs ops i rest k ht hm ho hw he
  refine .one (step_lone_go ?_)
  rw [stepG_op' ht hm ho hw hp, execOp_eq o hp he]
  simp [stepG.apply, h]
theorem does_skip {P : Program} {o : Oper} {ρ : Operand → Value} {w : World} {w' : World} (hp : plain o.op = true) (h : (execOp ρ o).run P w = .ok .skip w') : Does P o ρ w undef w' := by
  intro fr cs ops i rest k ht hm ho hw he
  refine .one (step_lone_go ?_)
  rw [stepG_op' ht hm ho hw hp, execOp_eq o hp he]
  simp [stepG.apply, h]

/-- A call of a Go function that hands a value back. -/
theorem does_enter {P : Program} {o : Oper} {ρ : Operand → Value} {w w1 : World} {v : Value} {w' : World} {g : FuncId} {args : Array Value} (hp : plain o.op = true) (h : (execOp ρ o).run P w = .ok (.enter g args) w1)
    (hc : ∀ kind cs, ∃ fr, Steps P (lone (Frame.enter P g args kind) cs w1) (lone fr cs w') ∧ Left P g kind fr w' (.ret v)) : Does P o ρ w v w' := by
  intro fr cs ops i rest k ht hm ho hw he
  have h1 : step P (lone fr cs w) = .next (lone (Frame.enter P g args .normal) (fr :: cs) w1) := by
    refine step_lone_go ?_
    rw [stepG_op' ht hm ho hw hp, execOp_eq o hp he]
    simp only [stepG.apply, Sem.runT_eq, h, GStep.bare_after, if_true, ht]
    rfl
  obtain ⟨fr', hs, hm', hd, hk, hf, fn, hfn, hr⟩ := hc .normal (fr :: cs)
  refine .head h1 (hs.trans (.one (step_lone_go ?_)))
  simp [stepG, unwind, doReturn, hm', hd, hk, hf, hfn, hr]

section
variable {P : Program} {f : FuncId} {N : Nat} {rd : Option Nat} {k : List Item} {E : Env} {D : List Deferred} {w : World} {R : Out → World → Prop} {ops : Array Oper}

/-- What is left of a region: its operations themselves. -/
def Ops (P : Program) (f : FuncId) (N : Nat) (rd : Option Nat) (ops : Array Oper) (l : List Oper) (k : List Item) (E : Env) (D : List Deferred) (w : World) (R : Out → World → Prop) : Prop :=
  ∀ idx : List Nat, idx.map (fun i => ops[i]?) = l.map some → Run P f N rd (.inRegion ops idx :: k) E D w R

theorem region {id : Nat} {l : List Oper} (h : Ops P f N rd l.toArray l k E D w R) : Run P f N rd (.code (.region id l.toArray false) :: k) E D w R := by
  refine .of_step (todo' := .inRegion l.toArray (List.range l.toArray.size) :: k) (fun _ _ _ _ => step_lone_go (by simp [stepG, stepG.exec])) (h _ ?_)
  apply List.ext_getElem
  · simp
  · intro i h1 h2
    simp

theorem opsEnd (h : Run P f N rd k E D w R) : Ops P f N rd ops [] k E D w R := by
  intro idx hi
  have : idx = [] := by simpa using hi
  subst this
  exact .of_step (fun _ _ _ _ => step_lone_go (by simp [stepG, stepG.exec])) h

theorem finish_region (f : FuncId) (rd : Option Nat) (kind : CallKind) (tmps : Array Value) (ops : Array Oper) (i : Nat) (rest : List Nat) (k : List Item) (D : List Deferred) (o : Oper) (ho : ops[i]? = some o) (v : Value) :
    (Fm f rd kind tmps (.inRegion ops (i :: rest) :: k) D .run).finish v = Fm f rd kind (putT tmps o.dst v) (.inRegion ops rest :: k) D .run := by
  simp only [Frame.finish, ho, Option.bind_some]
  cases o.dst <;> rfl

/-- ONE OPERATION. -/
theorem opW {l : List Oper} {o : Oper} {v : Value} {w' : World} (hw : ∀ tmps, Rep N E tmps → Region.wanted o (yielded ops tmps) = true) (hd : ∀ d, o.dst = some d → d < N) (ho : Does P o E.ev w v w')
    (h : Ops P f N rd ops l k (E.put o.dst v) D w' R) : Ops P f N rd ops (o :: l) k E D w R := by
  intro idx hi
  cases idx with
  | nil => simp at hi
  | cons i rest =>
    simp only [List.map_cons, List.cons.injEq] at hi
    obtain ⟨z, w2, r, s⟩ := h rest hi.2
    refine ⟨z, w2, r, fun kind cs tmps hc ht => ?_⟩
    have h1 := ho (Fm f rd kind tmps (.inRegion ops (i :: rest) :: k) D .run) cs ops i rest k rfl rfl hi.1 (hw tmps ht) (fun x _ => by rw [frame_eval, ht.eval])
    rw [finish_region f rd kind tmps ops i rest k D o hi.1] at h1
    obtain ⟨m, h2, h3⟩ := s kind cs _ hc (ht.put' o.dst v hd)
    exact ⟨m, h1.trans h2, h3⟩

theorem blt_lt {a b : Nat} (h : Nat.blt a b = true) : a < b := by rw [Nat.blt_eq] at h; exact h
def dstOk (N : Nat) : Option Tmp → Bool
  | some d => Nat.blt d N
  | none => true
theorem dstOk.lt {N : Nat} {o : Option Tmp} (h : dstOk N o = true) : ∀ d, o = some d → d < N := by
  intro d hd
  subst hd
  exact blt_lt h

theorem op {l : List Oper} {o : Oper} {v : Value} {w' : World} (ho : Does P o E.ev w v w') (hg : o.guard = none) (hd : dstOk N o.dst = true)
    (h : Ops P f N rd ops l k (E.put o.dst v) D w' R) : Ops P f N rd ops (o :: l) k E D w R :=
  opW (fun _ _ => by simp [Region.wanted, hg]) (dstOk.lt hd) ho h

/-- An operation under a guard: the guard's slot says yes. -/
theorem opG {l : List Oper} {o : Oper} {v : Value} {w' : World} {j d : Nat} {b : Bool} (ho : Does P o E.ev w v w') (hg : o.guard = some (j, b)) (hj : (ops[j]?).bind (·.dst) = some d) (hb : E.ev (.tmp d) = .bool b) (hd : dstOk N o.dst = true) (hdN : Nat.blt d N = true)
    (h : Ops P f N rd ops l k (E.put o.dst v) D w' R) : Ops P f N rd ops (o :: l) k E D w R :=
  opW (fun tmps ht => by
    have h1 : tmps.getD d undef = .bool b := (ht.at_ d).trans hb
    have hs := ht.size
    have hlt : d < tmps.size := by rw [hs]; exact blt_lt hdN
    have h2 : tmps[d]? = some (.bool b) := by
      rw [Array.getElem?_eq_getElem hlt]
      simpa [Array.getD, hlt] using h1
    simp [Region.wanted, hg, yielded, hj, h2]) (dstOk.lt hd) ho h

/-- The guard says no: passed over. -/
theorem opS {l : List Oper} {o : Oper} {j d : Nat} {b b' : Bool} (hg : o.guard = some (j, b)) (hj : (ops[j]?).bind (·.dst) = some d) (hb : E.ev (.tmp d) = .bool b') (hne : (b' != b) = true) (hd : dstOk N o.dst = true)
    (h : Ops P f N rd ops l k (E.put o.dst undef) D w R) : Ops P f N rd ops (o :: l) k E D w R := by
  intro idx hi
  cases idx with
  | nil => simp at hi
  | cons i rest =>
    simp only [List.map_cons, List.cons.injEq] at hi
    obtain ⟨z, w2, r, s⟩ := h rest hi.2
    refine ⟨z, w2, r, fun kind cs tmps hc ht => ?_⟩
    have hw : Region.wanted o (yielded ops tmps) = false := by
      have h1 : tmps.getD d undef = .bool b' := (ht.at_ d).trans hb
      simp only [Region.wanted, hg, yielded, hj, Option.bind_some]
      by_cases hlt : d < tmps.size
      · have h2 : tmps[d]? = some (.bool b') := by
          rw [Array.getElem?_eq_getElem hlt]
          simpa [Array.getD, hlt] using h1
        rw [h2]
        cases b <;> cases b' <;> first | rfl | simp at hne
      · rw [Array.getElem?_eq_none (by omega)]
        rfl
    obtain ⟨m, h2, h3⟩ := s kind cs _ hc (ht.put' o.dst undef (dstOk.lt hd))
    refine ⟨m, .head (step_lone_go ?_) h2, h3⟩
    rw [← finish_region f rd kind tmps ops i rest k D o hi.1]
    simp [stepG, stepG.exec, hi.1, hw]

/-- A slot that holds a Bool: both ways, the slot written out. -/
theorem lk_put (b : Nat → Value) (l : List (Nat × Value)) (d : Nat) (t : Nat) : lk b ((d, lk b l d) :: l) t = lk b l t := by
  show (match Nat.beq d t with | true => lk b l d | false => lk b l t) = _
  cases h : Nat.beq d t
  · rfl
  · rw [Nat.eq_of_beq_eq_true h]
theorem Ops.env {l : List Oper} {E E' : Env} (he : ∀ t, E.at_ t = E'.at_ t) (h : Ops P f N rd ops l k E' D w R) : Ops P f N rd ops l k E D w R := fun idx hi => Run.env he (h idx hi)
theorem forkO {l : List Oper} (d : Nat) {b : Bool} (hb : E.ev (.tmp d) = .bool b) (h1 : b = true → Ops P f N rd ops l k (E.put (some d) (.bool true)) D w R) (h0 : b = false → Ops P f N rd ops l k (E.put (some d) (.bool false)) D w R) : Ops P f N rd ops l k E D w R := by
  have he : ∀ t, E.at_ t = (E.put (some d) (.bool b)).at_ t := fun t => by
    show _ = lk E.b ((d, _) :: E.l) t
    rw [← hb]
    exact (lk_put E.b E.l d t).symm
  cases b with
  | true => exact Ops.env he (h1 rfl)
  | false => exact Ops.env he (h0 rfl)
end
end Go.Proofs.Ytgfficbkajcdpaa.X

namespace Go.Proofs.Ytgfficbkajcdpaa.X
open Go

/-! ### 1. From world to world: only blocks of T have turned -/
structure Ext (T : Nat → Prop) (w w' : World) : Prop where
  os : w'.os = w.os
  tape : w'.tape = w.tape
  output : w'.output = w.output
  size : w.heap.size ≤ w'.heap.size
  keep : ∀ k, k < w.heap.size → ¬ T k → w'.heap[k]? = w.heap[k]?
/-- Nothing that was there has turned. -/
abbrev Keep (w w' : World) : Prop := Ext (fun _ => False) w w'
theorem Ext.refl (T : Nat → Prop) (w : World) : Ext T w w := ⟨rfl, rfl, rfl, Nat.le_refl _, fun _ _ _ => rfl⟩
theorem Ext.trans {T U V : Nat → Prop} {a b c : World} (h : Ext T a b) (h' : Ext U b c) (hT : ∀ k, k < a.heap.size → T k → V k) (hU : ∀ k, k < a.heap.size → U k → V k) : Ext V a c :=
  ⟨h'.os.trans h.os, h'.tape.trans h.tape, h'.output.trans h.output, Nat.le_trans h.size h'.size, fun k hk hn => by
    rw [h'.keep k (Nat.lt_of_lt_of_le hk h.size) (fun hu => hn (hU k hk hu)), h.keep k hk (fun ht => hn (hT k hk ht))]⟩
theorem Ext.mono {T U : Nat → Prop} {a b : World} (h : Ext T a b) (hT : ∀ k, k < a.heap.size → T k → U k) : Ext U a b := ⟨h.os, h.tape, h.output, h.size, fun k hk hn => h.keep k hk fun ht => hn (hT k hk ht)⟩
theorem Keep.refl (w : World) : Keep w w := Ext.refl _ w
theorem Keep.trans {a b c : World} (h : Keep a b) (h' : Keep b c) : Keep a c := Ext.trans h h' (fun _ _ x => x) (fun _ _ x => x)
/-- What turns on the way is new. -/
theorem Keep.step {U : Nat → Prop} {a b c : World} (h : Keep a b) (h' : Ext U b c) (hU : ∀ k, U k → a.heap.size ≤ k) : Keep a c :=
  Ext.trans h h' (fun _ _ x => x) (fun k hk hu => absurd (hU k hu) (Nat.not_le.2 hk))
theorem Keep.below {w w' : World} (h : Keep w w') : RowKit.Below w.heap.size w w' := ⟨h.os, h.tape, h.output, h.size, fun k hk => h.keep k hk id⟩
theorem Keep.of_below {w w' : World} (h : RowKit.Below w.heap.size w w') : Keep w w' := ⟨h.os, h.tape, h.output, h.size, fun k hk _ => h.block k hk⟩
theorem Ext.of_grown {w w' : World} {row : Option Nat} (h : w.grownBy w' row) : Ext (fun k => row = some k) w w' := ⟨h.os, h.tape, h.output, h.size, fun k hk hn => h.block k hk fun e => hn e.symm⟩
theorem Ext.grown {w w' : World} {b : Nat} (h : Ext (fun k => k = b) w w') : w.grownBy w' (some b) := ⟨h.os, h.tape, h.output, h.size, fun k hk hn => h.keep k hk fun e => hn (by rw [e])⟩
theorem Keep.grown {w w' : World} (h : Keep w w') : w.grownBy w' none := ⟨h.os, h.tape, h.output, h.size, fun k hk _ => h.keep k hk id⟩
theorem Below.heap_alloc_ (w : World) (o : Obj) (k : Nat) (h : k < w.heap.size) : (w.alloc o).heap[k]? = w.heap[k]? := RowKit.Below.heap_alloc w o k h
theorem Keep.alloc (w : World) (o : Obj) : Keep w (w.alloc o) := ⟨rfl, rfl, rfl, by simp, fun k hk _ => Below.heap_alloc_ w o k hk⟩
theorem Keep.drew (w : World) : Keep w w.drew := ⟨rfl, rfl, rfl, Nat.le_refl _, fun _ _ _ => rfl⟩
theorem Ext.setCell (w : World) (a : Addr) (v : Value) : Ext (fun k => k = a.block) w (w.setCell a v) := ⟨rfl, rfl, rfl, by simp, fun k _ hn => heap_setCell_other w a k v hn⟩
theorem cell_ext {T : Nat → Prop} {w w' : World} (h : Ext T w w') {a : Addr} {v : Value} (hc : w.cell? a = some v) (hT : ¬ T a.block) : w'.cell? a = some v := by
  rw [World.cell?_of_block (w := w) (h.keep _ (World.block_lt_of_cell? w a hc) hT)]; exact hc
theorem cell_keep {w w' : World} (h : Keep w w') {a : Addr} {v : Value} (hc : w.cell? a = some v) : w'.cell? a = some v := cell_ext h hc id

/-! ### 2. A block known whole -/
def Blk (w : World) (b : Nat) (cs : List Value) (e : TypeId) : Prop := w.heap[b]? = some (.cells cs.toArray e (0, 0))
theorem Blk.lt {w : World} {b : Nat} {cs : List Value} {e : TypeId} (h : Blk w b cs e) : b < w.heap.size := lt_of_block h
theorem Blk.ext {w w' : World} {b : Nat} {cs : List Value} {e : TypeId} (h : Blk w b cs e) {T : Nat → Prop} (x : Ext T w w') (hT : ¬ T b) : Blk w' b cs e := (x.keep b h.lt hT).trans h
theorem Blk.keep {w w' : World} {b : Nat} {cs : List Value} {e : TypeId} (h : Blk w b cs e) (x : Keep w w') : Blk w' b cs e := h.ext x id
theorem Blk.cell {w : World} {b : Nat} {cs : List Value} {e : TypeId} (h : Blk w b cs e) (i : Nat) : w.cell? ⟨b, i, none⟩ = cs[i]? := by
  rw [cell_of_row w b i cs.toArray e (0, 0) h]; simp
theorem Blk.free {w : World} {b : Nat} {cs : List Value} {e : TypeId} (h : Blk w b cs e) (i : Nat) : w.frozen? ⟨b, i, none⟩ = false := frozen_of_row w b i cs.toArray e h
theorem Blk.new (w : World) (cs : List Value) (e : TypeId) : Blk (w.alloc (.cells cs.toArray e)) w.heap.size cs e := heap_alloc_new w _
theorem Blk.set {w : World} {b : Nat} {cs : List Value} {e : TypeId} (h : Blk w b cs e) (i : Nat) (v : Value) : Blk (w.setCell ⟨b, i, none⟩ v) b (cs.set i v) e := by
  unfold Blk at h ⊢
  rw [heap_setCell_same w b i cs.toArray e v h]
  simp
/-- A block with a mark (the bytes of a string): read only. -/
def BlkM (w : World) (b : Nat) (cs : List Value) (e : TypeId) : Prop := ∃ m, w.heap[b]? = some (.cells cs.toArray e m)

/-! ### 3. Data: what a value's cells say. lo, hi: the blocks that it lies in -/
/-- What lies in the blocks from lo to hi stands. -/
def Stand (lo hi : Nat) (w w' : World) : Prop := ∀ k, lo ≤ k → k < hi → k < w.heap.size → w'.heap[k]? = w.heap[k]?
theorem Ext.stand {T : Nat → Prop} {w w' : World} (x : Ext T w w') {lo hi : Nat} (hT : ∀ k, lo ≤ k → k < hi → ¬ T k) : Stand lo hi w w' := fun k h1 h2 h3 => x.keep k h3 (hT k h1 h2)
theorem Stand.cell {lo hi : Nat} {w w' : World} (h : Stand lo hi w w') {a : Addr} {v : Value} (h1 : lo ≤ a.block) (h2 : a.block < hi) (hc : w.cell? a = some v) : w'.cell? a = some v := by
  rw [World.cell?_of_block (w := w) (h _ h1 h2 (World.block_lt_of_cell? w a hc))]; exact hc

structure Kd (α : Type) where
  sz : Nat
  R : Nat → Nat → World → α → List Value → Prop
  len : ∀ {lo hi w x cs}, R lo hi w x cs → cs.length = sz
  move : ∀ {lo hi w w' x cs}, R lo hi w x cs → Stand lo hi w w' → R lo hi w' x cs
  wide : ∀ {lo hi lo' hi' w x cs}, R lo hi w x cs → lo' ≤ lo → hi ≤ hi' → R lo' hi' w x cs
  one : ∀ {lo hi w x cs}, R lo hi w x cs → ∀ u, u ∈ cs → u.oneCell' = true

/-- Data that its cells tell by themselves. -/
def Kd.plain {α : Type} (sz : Nat) (enc : α → List Value) (ok : α → Prop) (hl : ∀ x, (enc x).length = sz) (h1 : ∀ x u, u ∈ enc x → u.oneCell' = true) : Kd α where
  sz := sz
  R := fun _ _ _ x cs => cs = enc x ∧ ok x
  len := by intro lo hi w x cs h; rw [h.1]; exact hl x
  move := fun h _ => h
  wide := fun h _ _ => h
  one := by intro lo hi w x cs h u hu; rw [h.1] at hu; exact h1 x u hu

/-- A slice's cells: element j at its place. -/
structure Sl {α : Type} (K : Kd α) (lo hi : Nat) (w : World) (A : Option Addr) (n : Nat) (xs : List α) : Prop where
  len : xs.length = n
  bound : n ≤ 9223372036854775807
  at_ : 0 < n → ∃ ad, A = some ad ∧ lo ≤ ad.block ∧ ad.block < hi ∧ ∀ j x, xs[j]? = some x → ∃ cs, K.R lo hi w x cs ∧ ∀ i u, cs[i]? = some u → w.cell? (ad.add (j * K.sz + i)) = some u

theorem add_block (ad : Addr) (n : Nat) : (ad.add n).block = ad.block := by unfold Addr.add; split <;> rfl
theorem add_add (ad : Addr) (m n : Nat) : (ad.add m).add n = ad.add (m + n) := by
  unfold Addr.add
  by_cases h1 : m = 0 <;> by_cases h2 : n = 0 <;> simp [h1, h2, Nat.add_assoc]
theorem add_zero (ad : Addr) : ad.add 0 = ad := by simp [Addr.add]
theorem add_mk (b i n : Nat) : (⟨b, i, none⟩ : Addr).add n = ⟨b, i + n, none⟩ := by unfold Addr.add; split <;> simp_all

section
variable {α : Type} {K : Kd α} {lo hi : Nat} {w w' : World} {A : Option Addr} {n : Nat} {xs : List α}
theorem Sl.move (h : Sl K lo hi w A n xs) (hk : Stand lo hi w w') : Sl K lo hi w' A n xs :=
  ⟨h.len, h.bound, fun hn => by
    obtain ⟨ad, e, h1, h2, hc⟩ := h.at_ hn
    refine ⟨ad, e, h1, h2, fun j x hx => ?_⟩
    obtain ⟨cs, hr, hcell⟩ := hc j x hx
    exact ⟨cs, K.move hr hk, fun i u hu => hk.cell (by rw [add_block]; exact h1) (by rw [add_block]; exact h2) (hcell i u hu)⟩⟩
theorem Sl.ext (h : Sl K lo hi w A n xs) {T : Nat → Prop} (x : Ext T w w') (hT : ∀ k, lo ≤ k → k < hi → ¬ T k) : Sl K lo hi w' A n xs := h.move (x.stand hT)
theorem Sl.keep (h : Sl K lo hi w A n xs) (x : Keep w w') : Sl K lo hi w' A n xs := h.ext x fun _ _ _ => id
theorem Sl.wide (h : Sl K lo hi w A n xs) {lo' hi' : Nat} (hl : lo' ≤ lo) (hh : hi ≤ hi') : Sl K lo' hi' w A n xs :=
  ⟨h.len, h.bound, fun hn => by
    obtain ⟨ad, e, h1, h2, hc⟩ := h.at_ hn
    exact ⟨ad, e, Nat.le_trans hl h1, Nat.lt_of_lt_of_le h2 hh, fun j x hx => by
      obtain ⟨cs, hr, hcell⟩ := hc j x hx
      exact ⟨cs, K.wide hr hl hh, hcell⟩⟩⟩
theorem Sl.nil (K : Kd α) (lo hi : Nat) (w : World) (A : Option Addr) : Sl K lo hi w A 0 [] := ⟨rfl, by omega, fun h => absurd h (by omega)⟩
/-- A cut at the end, at the front. -/
theorem Sl.take (h : Sl K lo hi w A n xs) (i : Nat) (hle : i ≤ n) : Sl K lo hi w A i (xs.take i) :=
  ⟨by rw [List.length_take, h.len, Nat.min_eq_left hle], by have := h.bound; omega, fun hp => by
    obtain ⟨ad, e, h1, h2, hc⟩ := h.at_ (by omega)
    refine ⟨ad, e, h1, h2, fun j x hx => hc j x ?_⟩
    rw [List.getElem?_take] at hx
    split at hx
    · exact hx
    · cases hx⟩
theorem Sl.drop (h : Sl K lo hi w A n xs) (i c : Nat) (hle : i ≤ n) (hc : n ≤ c) : Sl K lo hi w (if c = i then A else A.map (·.add (i * K.sz))) (n - i) (xs.drop i) :=
  ⟨by rw [List.length_drop, h.len], by have := h.bound; omega, fun hp => by
    obtain ⟨ad, e, h1, h2, hcell⟩ := h.at_ (by omega)
    rw [if_neg (by omega), e]
    refine ⟨ad.add (i * K.sz), rfl, by rw [add_block]; exact h1, by rw [add_block]; exact h2, fun j x hx => ?_⟩
    rw [List.getElem?_drop] at hx
    obtain ⟨cs, hr, hq⟩ := hcell (i + j) x hx
    refine ⟨cs, hr, fun m u hu => ?_⟩
    rw [add_add, show i * K.sz + (j * K.sz + m) = (i + j) * K.sz + m by rw [Nat.add_mul]; omega]
    exact hq m u hu⟩
/-- The element at j. -/
theorem Sl.get (h : Sl K lo hi w A n xs) (j : Nat) (x : α) (hx : xs[j]? = some x) : ∃ ad cs, A = some ad ∧ K.R lo hi w x cs ∧ ∀ i u, cs[i]? = some u → w.cell? (ad.add (j * K.sz + i)) = some u := by
  have hj : j < n := by rw [← h.len]; exact (List.getElem?_eq_some_iff.1 hx).1
  obtain ⟨ad, e, _, _, hc⟩ := h.at_ (by omega)
  obtain ⟨cs, hr, hq⟩ := hc j x hx
  exact ⟨ad, cs, e, hr, hq⟩
end

/-- A slice as data. -/
def Kd.slice {α : Type} (K : Kd α) : Kd (List α) where
  sz := 1
  R := fun lo hi w xs cs => ∃ A n c, cs = [.slice A n c] ∧ n ≤ c ∧ Sl K lo hi w A n xs
  len := by rintro lo hi w x cs ⟨A, n, c, rfl, _⟩; rfl
  move := by rintro lo hi w w' x cs ⟨A, n, c, rfl, hc, hs⟩ hk; exact ⟨A, n, c, rfl, hc, hs.move hk⟩
  wide := by rintro lo hi lo' hi' w x cs ⟨A, n, c, rfl, hc, hs⟩ hl hh; exact ⟨A, n, c, rfl, hc, hs.wide hl hh⟩
  one := by rintro lo hi w x cs ⟨A, n, c, rfl, _⟩ u hu; simp at hu; subst hu; rfl
/-- Two fields (or more), one behind the other. -/
def Kd.pair {α β : Type} (K : Kd α) (L : Kd β) : Kd (α × β) where
  sz := K.sz + L.sz
  R := fun lo hi w x cs => ∃ a b, cs = a ++ b ∧ K.R lo hi w x.1 a ∧ L.R lo hi w x.2 b
  len := by rintro lo hi w x cs ⟨a, b, rfl, h1, h2⟩; rw [List.length_append, K.len h1, L.len h2]
  move := by rintro lo hi w w' x cs ⟨a, b, rfl, h1, h2⟩ hk; exact ⟨a, b, rfl, K.move h1 hk, L.move h2 hk⟩
  wide := by rintro lo hi lo' hi' w x cs ⟨a, b, rfl, h1, h2⟩ hl hh; exact ⟨a, b, rfl, K.wide h1 hl hh, L.wide h2 hl hh⟩
  one := by
    rintro lo hi w x cs ⟨a, b, rfl, h1, h2⟩ u hu
    rcases List.mem_append.1 hu with hu | hu
    · exact K.one h1 u hu
    · exact L.one h2 u hu
def Kd.iso {α β : Type} (K : Kd α) (g : β → α) : Kd β where
  sz := K.sz
  R := fun lo hi w x cs => K.R lo hi w (g x) cs
  len := K.len
  move := K.move
  wide := K.wide
  one := K.one

/-- Cells of several elements, one behind the other. -/
def Reps {α : Type} (K : Kd α) (lo hi : Nat) (w : World) : List α → List Value → Prop
  | [], cs => cs = []
  | x :: xs, cs => ∃ a b, cs = a ++ b ∧ K.R lo hi w x a ∧ Reps K lo hi w xs b
section
variable {α : Type} {K : Kd α} {lo hi : Nat} {w w' : World}
theorem Reps.length : ∀ {xs : List α} {cs : List Value}, Reps K lo hi w xs cs → cs.length = xs.length * K.sz
  | [], cs, h => by simp [show cs = [] from h]
  | x :: xs, cs, ⟨a, b, e, h1, h2⟩ => by rw [e, List.length_append, K.len h1, Reps.length h2, List.length_cons, Nat.add_mul, Nat.one_mul, Nat.add_comm]
theorem Reps.move (hk : Stand lo hi w w') : ∀ {xs : List α} {cs : List Value}, Reps K lo hi w xs cs → Reps K lo hi w' xs cs
  | [], _, h => h
  | _ :: _, _, ⟨a, b, e, h1, h2⟩ => ⟨a, b, e, K.move h1 hk, Reps.move hk h2⟩
theorem Reps.wide {lo' hi' : Nat} (hl : lo' ≤ lo) (hh : hi ≤ hi') : ∀ {xs : List α} {cs : List Value}, Reps K lo hi w xs cs → Reps K lo' hi' w xs cs
  | [], _, h => h
  | _ :: _, _, ⟨a, b, e, h1, h2⟩ => ⟨a, b, e, K.wide h1 hl hh, Reps.wide hl hh h2⟩
theorem Reps.app : ∀ {xs ys : List α} {cs ds : List Value}, Reps K lo hi w xs cs → Reps K lo hi w ys ds → Reps K lo hi w (xs ++ ys) (cs ++ ds)
  | [], ys, cs, ds, h, h' => by rw [show cs = [] from h]; exact h'
  | x :: xs, ys, cs, ds, ⟨a, b, e, h1, h2⟩, h' => ⟨a, b ++ ds, by rw [e, List.append_assoc], h1, Reps.app h2 h'⟩
theorem Reps.single {x : α} {cs : List Value} (h : K.R lo hi w x cs) : Reps K lo hi w [x] cs := ⟨cs, [], by simp, h, rfl⟩
theorem Reps.get : ∀ {xs : List α} {cs : List Value}, Reps K lo hi w xs cs → ∀ j x, xs[j]? = some x → ∃ a, K.R lo hi w x a ∧ ∀ i u, a[i]? = some u → cs[j * K.sz + i]? = some u
  | [], _, _, j, x, hx => by simp at hx
  | y :: ys, cs, ⟨a, b, e, h1, h2⟩, j, x, hx => by
    cases j with
    | zero =>
      simp only [List.getElem?_cons_zero, Option.some.injEq] at hx
      subst hx
      exact ⟨a, h1, fun i u hu => by
        have hi : i < a.length := (List.getElem?_eq_some_iff.1 hu).1
        rw [e, Nat.zero_mul, Nat.zero_add, List.getElem?_append_left hi]; exact hu⟩
    | succ j =>
      simp only [List.getElem?_cons_succ] at hx
      obtain ⟨c, hc, hq⟩ := Reps.get h2 j x hx
      refine ⟨c, hc, fun i u hu => ?_⟩
      have := K.len h1
      rw [e, List.getElem?_append_right (by rw [Nat.add_mul]; omega)]
      rw [show (j + 1) * K.sz + i - a.length = j * K.sz + i by rw [Nat.add_mul]; omega]
      exact hq i u hu
theorem Reps.one : ∀ {xs : List α} {cs : List Value}, Reps K lo hi w xs cs → ∀ u, u ∈ cs → u.oneCell' = true
  | [], cs, h, u, hu => by rw [show cs = [] from h] at hu; cases hu
  | _ :: _, _, ⟨a, b, e, h1, h2⟩, u, hu => by
    rw [e] at hu
    rcases List.mem_append.1 hu with hu | hu
    · exact K.one h1 u hu
    · exact Reps.one h2 u hu
/-- A slice that is read, as cells. -/
theorem Sl.reps {A : Option Addr} {n : Nat} {xs : List α} (h : Sl K lo hi w A n xs) : ∃ cs, Reps K lo hi w xs cs ∧ ∀ ad, A = some ad → ∀ j u, cs[j]? = some u → w.cell? (ad.add j) = some u := by
  rcases Nat.eq_zero_or_pos n with h0 | h0
  · have : xs = [] := List.eq_nil_of_length_eq_zero (h.len.trans h0)
    subst this
    exact ⟨[], rfl, fun _ _ j u hu => by simp at hu⟩
  · obtain ⟨ad, e, _, _, hc⟩ := h.at_ h0
    clear h h0
    subst e
    have key : ∀ (ys : List α) (off : Nat), (∀ j x, ys[j]? = some x → ∃ cs, K.R lo hi w x cs ∧ ∀ i u, cs[i]? = some u → w.cell? (ad.add (off + (j * K.sz + i))) = some u) →
        ∃ cs, Reps K lo hi w ys cs ∧ ∀ j u, cs[j]? = some u → w.cell? (ad.add (off + j)) = some u := by
      intro ys
      induction ys with
      | nil => intro off _; exact ⟨[], rfl, fun j u hu => by simp at hu⟩
      | cons y ys ih =>
        intro off hq
        obtain ⟨a, ha, hca⟩ := hq 0 y rfl
        obtain ⟨b, hb, hcb⟩ := ih (off + K.sz) fun j x hx => by
          obtain ⟨cs, hr, hq'⟩ := hq (j + 1) x (by simpa using hx)
          exact ⟨cs, hr, fun i u hu => by rw [show off + K.sz + (j * K.sz + i) = off + ((j + 1) * K.sz + i) by rw [Nat.add_mul]; omega]; exact hq' i u hu⟩
        refine ⟨a ++ b, ⟨a, b, rfl, ha, hb⟩, fun j u hu => ?_⟩
        rcases Nat.lt_or_ge j a.length with hj | hj
        · rw [List.getElem?_append_left hj] at hu
          have := hca j u hu
          rwa [Nat.zero_mul, Nat.zero_add] at this
        · rw [List.getElem?_append_right hj] at hu
          have := hcb _ u hu
          rwa [K.len ha, show off + K.sz + (j - K.sz) = off + j by have := K.len ha; omega] at this
    obtain ⟨cs, h1, h2⟩ := key xs 0 fun j x hx => by
      obtain ⟨cs, hr, hq⟩ := hc j x hx
      exact ⟨cs, hr, fun i u hu => by rw [Nat.zero_add]; exact hq i u hu⟩
    refine ⟨cs, h1, fun ad' e j u hu => ?_⟩
    cases e
    have := h2 j u hu
    rwa [Nat.zero_add] at this
end

/-! ### 4. A row that is the call's own -/
/-- The slice value v holds xs; its row (block b; none: there is none) is the call's own; lo, hi: where its elements' data lie. -/
structure Own {α : Type} (K : Kd α) (e : TypeId) (b : Option Nat) (lo hi : Nat) (w : World) (v : Value) (xs : List α) : Prop where
  row : ∃ cs, Reps K lo hi w xs cs ∧ w.ownsRow 0 e K.sz v xs.length cs
  blk : v.ownBlock = b

section
variable {α : Type} {K : Kd α} {e : TypeId} {b : Option Nat} {lo hi : Nat} {w w' : World} {v : Value} {xs : List α}
theorem Own.lt (h : Own K e b lo hi w v xs) : ∀ k, b = some k → k < w.heap.size := by
  obtain ⟨⟨cs, _, ho⟩, rfl⟩ := h
  exact fun k hk => (ho.lt k hk).2
theorem Own.slice (h : Own K e b lo hi w v xs) : ∃ A c, v = .slice A xs.length c ∧ xs.length ≤ c ∧ xs.length ≤ 9223372036854775807 := by
  obtain ⟨⟨cs, _, ho⟩, _⟩ := h
  rcases ho.2 with ⟨rfl, h0⟩ | ⟨g, cap, cur, rfl, _, _, h1, h2, _⟩
  · exact ⟨none, 0, by rw [h0], by omega, by omega⟩
  · exact ⟨_, cap, rfl, h1, by simp only [maxLen] at h2; omega⟩
theorem Own.nil (K : Kd α) (e : TypeId) (lo hi : Nat) (w : World) : Own K e none lo hi w (.slice none 0 0) [] := ⟨⟨[], rfl, World.ownsRow_nil _ _ _ _⟩, rfl⟩
theorem Own.ext (h : Own K e b lo hi w v xs) {T : Nat → Prop} (x : Ext T w w') (hT : ∀ k, lo ≤ k → k < hi → ¬ T k) (hb : ∀ k, b = some k → ¬ T k) : Own K e b lo hi w' v xs := by
  obtain ⟨⟨cs, hr, ho⟩, rfl⟩ := h
  refine ⟨⟨cs, hr.move (x.stand hT), ho.1, ?_⟩, rfl⟩
  rcases ho.2 with h0 | ⟨g, cap, cur, rfl, hg, hh, r⟩
  · exact .inl h0
  · exact .inr ⟨g, cap, cur, rfl, hg, (x.keep g (lt_of_block hh) (hb g rfl)).trans hh, r⟩
theorem Own.keep (h : Own K e b lo hi w v xs) (x : Keep w w') : Own K e b lo hi w' v xs := h.ext x (fun _ _ _ => id) (fun _ _ => id)
theorem Own.wide (h : Own K e b lo hi w v xs) {lo' hi' : Nat} (hl : lo' ≤ lo) (hh : hi ≤ hi') : Own K e b lo' hi' w v xs := by
  obtain ⟨⟨cs, hr, ho⟩, hb⟩ := h
  exact ⟨⟨cs, hr.wide hl hh, ho⟩, hb⟩
/-- Read. -/
theorem Own.sl (h : Own K e b lo hi w v xs) (hb : ∀ k, b = some k → lo ≤ k ∧ k < hi) : ∃ A c, v = .slice A xs.length c ∧ xs.length ≤ c ∧ Sl K lo hi w A xs.length xs := by
  obtain ⟨A, c, rfl, hc, hm⟩ := h.slice
  refine ⟨A, c, rfl, hc, rfl, hm, fun hn => ?_⟩
  obtain ⟨⟨cs, hr, ho⟩, rfl⟩ := h
  rcases ho.2 with ⟨h0, h1⟩ | ⟨g, cap, cur, he, hg, hh, r⟩
  · omega
  · injection he with he _ _
    subst he
    refine ⟨_, rfl, (hb g rfl).1, (hb g rfl).2, fun j x hx => ?_⟩
    obtain ⟨a, ha, hq⟩ := hr.get j x hx
    exact ⟨a, ha, fun i u hu => ho.cells (g := g) rfl _ u (hq i u hu)⟩
end
end Go.Proofs.Ytgfficbkajcdpaa.X

namespace Go.Proofs.Ytgfficbkajcdpaa.X
open Go

/-! ### numbers within their kinds -/
theorem w_i64 {n : Int} (h : -9223372036854775808 ≤ n ∧ n ≤ 9223372036854775807) : IntKind.i64.wrap n = n := by
  exact IntWalk.i64_in n h
theorem w_u64 {n : Int} (h : 0 ≤ n ∧ n ≤ 18446744073709551615) : IntKind.u64.wrap n = n := by
  simp only [IntKind.wrap, IntKind.bits, IntKind.signed, Bool.false_and, Bool.false_eq_true, if_false]
  omega
theorem w_u32 {n : Int} (h : 0 ≤ n ∧ n ≤ 4294967295) : IntKind.u32.wrap n = n := by
  simp only [IntKind.wrap, IntKind.bits, IntKind.signed, Bool.false_and, Bool.false_eq_true, if_false]
  omega
theorem w_u8 {n : Int} (h : 0 ≤ n ∧ n ≤ 255) : IntKind.u8.wrap n = n := by
  simp only [IntKind.wrap, IntKind.bits, IntKind.signed, Bool.false_and, Bool.false_eq_true, if_false]
  omega
theorem u64_wrap (n : Int) : IntKind.u64.wrap n = n % 18446744073709551616 := by
  simp [IntKind.wrap, IntKind.bits, IntKind.signed]
theorem u32_wrap (n : Int) : IntKind.u32.wrap n = n % 4294967296 := by
  simp [IntKind.wrap, IntKind.bits, IntKind.signed]
theorem u8_wrap (n : Int) : IntKind.u8.wrap n = n % 256 := by
  simp [IntKind.wrap, IntKind.bits, IntKind.signed]

section
variable {P : Program} {ρ : Operand → Value} {w : World} {dst : Option Tmp} {ty : TypeId} {pos : String} {aft : Array Edge} {g : Option (Nat × Bool)}

theorem move {x : Operand} {v : Value} (h : ρ x = v) : Does P ⟨dst, .move x, ty, pos, aft, g⟩ ρ w v w := does_run rfl (by simp [execOp, h])
theorem assign {x : Operand} {v : Value} (h : ρ x = v) : Does P ⟨dst, .assign x, ty, pos, aft, g⟩ ρ w v w := does_run rfl (by simp [execOp, h])
theorem pickT {c a b : Operand} {v : Value} (hc : ρ c = .bool true) (h : ρ a = v) : Does P ⟨dst, .pick c a b, ty, pos, aft, g⟩ ρ w v w := does_run rfl (by simp [execOp, asBool, hc, h])
theorem pickF {c a b : Operand} {v : Value} (hc : ρ c = .bool false) (h : ρ b = v) : Does P ⟨dst, .pick c a b, ty, pos, aft, g⟩ ρ w v w := does_run rfl (by simp [execOp, asBool, hc, h])
theorem nilCk {x : Operand} {a : Addr} (h : ρ x = .pointer (some a)) : Does P ⟨dst, .nilCheck x, ty, pos, aft, g⟩ ρ w (.pointer (some a)) w := does_run rfl (by simp [execOp, h])
theorem extr {x : Operand} {vs : Array Value} {i : Nat} {v : Value} (h : ρ x = .tuple vs) (hv : vs[i]? = some v) : Does P ⟨dst, .extract x i, ty, pos, aft, g⟩ ρ w v w := does_run rfl (by simp [execOp, Instr.extract, h, hv])

/-! ### whole numbers -/
theorem add {kd : IntKind} {T T' : TypeId} {x y : Operand} {a b c : Int} (hx : ρ x = .int kd a) (hy : ρ y = .int kd b) (hc : kd.wrap (a + b) = c) : Does P ⟨dst, .binOp .add T x y T', ty, pos, aft, g⟩ ρ w (.int kd c) w :=
  does_run rfl (by simp [execOp, hx, hy, binOp, eqGuard, Op.intArith, hc])
theorem sub {kd : IntKind} {T T' : TypeId} {x y : Operand} {a b c : Int} (hx : ρ x = .int kd a) (hy : ρ y = .int kd b) (hc : kd.wrap (a - b) = c) : Does P ⟨dst, .binOp .sub T x y T', ty, pos, aft, g⟩ ρ w (.int kd c) w :=
  does_run rfl (by simp [execOp, hx, hy, binOp, eqGuard, Op.intArith, hc])
theorem mul {kd : IntKind} {T T' : TypeId} {x y : Operand} {a b c : Int} (hx : ρ x = .int kd a) (hy : ρ y = .int kd b) (hc : kd.wrap (a * b) = c) : Does P ⟨dst, .binOp .mul T x y T', ty, pos, aft, g⟩ ρ w (.int kd c) w :=
  does_run rfl (by simp [execOp, hx, hy, binOp, eqGuard, Op.intArith, hc])
theorem quo {kd : IntKind} {T T' : TypeId} {x y : Operand} {a b c : Int} (hx : ρ x = .int kd a) (hy : ρ y = .int kd b) (h0 : b ≠ 0) (hc : kd.wrap (a.tdiv b) = c) : Does P ⟨dst, .binOp .quo T x y T', ty, pos, aft, g⟩ ρ w (.int kd c) w :=
  does_run rfl (by simp [execOp, hx, hy, binOp, eqGuard, Op.intDiv, hc, h0])
theorem rem {kd : IntKind} {T T' : TypeId} {x y : Operand} {a b c : Int} (hx : ρ x = .int kd a) (hy : ρ y = .int kd b) (h0 : b ≠ 0) (hc : a.tmod b = c) : Does P ⟨dst, .binOp .rem T x y T', ty, pos, aft, g⟩ ρ w (.int kd c) w :=
  does_run rfl (by simp [execOp, hx, hy, binOp, eqGuard, Op.intDiv, hc, h0])
theorem and_ {kd : IntKind} {T T' : TypeId} {x y : Operand} {a b c : Int} (hx : ρ x = .int kd a) (hy : ρ y = .int kd b) (hc : kd.wrap (BitVec.ofInt kd.bits a &&& BitVec.ofInt kd.bits b).toNat = c) : Does P ⟨dst, .binOp .and T x y T', ty, pos, aft, g⟩ ρ w (.int kd c) w :=
  does_run rfl (by simp only [execOp, hx, hy, binOp, eqGuard, Op.intBits, hc]; simp)
theorem or_ {kd : IntKind} {T T' : TypeId} {x y : Operand} {a b c : Int} (hx : ρ x = .int kd a) (hy : ρ y = .int kd b) (hc : kd.wrap (BitVec.ofInt kd.bits a ||| BitVec.ofInt kd.bits b).toNat = c) : Does P ⟨dst, .binOp .or T x y T', ty, pos, aft, g⟩ ρ w (.int kd c) w :=
  does_run rfl (by simp only [execOp, hx, hy, binOp, eqGuard, Op.intBits, hc]; simp)
theorem xor_ {kd : IntKind} {T T' : TypeId} {x y : Operand} {a b c : Int} (hx : ρ x = .int kd a) (hy : ρ y = .int kd b) (hc : kd.wrap (BitVec.ofInt kd.bits a ^^^ BitVec.ofInt kd.bits b).toNat = c) : Does P ⟨dst, .binOp .xor T x y T', ty, pos, aft, g⟩ ρ w (.int kd c) w :=
  does_run rfl (by simp only [execOp, hx, hy, binOp, eqGuard, Op.intBits, hc]; simp)
theorem shl {kd yk : IntKind} {T T' : TypeId} {x y : Operand} {a b c : Int} (hx : ρ x = .int kd a) (hy : ρ y = .int yk b) (h0 : 0 ≤ b) (hc : kd.wrap (a * 2 ^ (min b.toNat kd.bits)) = c) : Does P ⟨dst, .binOp .shl T x y T', ty, pos, aft, g⟩ ρ w (.int kd c) w :=
  does_run rfl (by simp [execOp, hx, hy, binOp, eqGuard, Op.shift, hc, show ¬ b < 0 by omega])
theorem shr {kd yk : IntKind} {T T' : TypeId} {x y : Operand} {a b c : Int} (hx : ρ x = .int kd a) (hy : ρ y = .int yk b) (h0 : 0 ≤ b) (hc : a.fdiv (2 ^ (min b.toNat kd.bits)) = c) : Does P ⟨dst, .binOp .shr T x y T', ty, pos, aft, g⟩ ρ w (.int kd c) w :=
  does_run rfl (by simp [execOp, hx, hy, binOp, eqGuard, Op.shift, hc, show ¬ b < 0 by omega])
theorem lss {kd : IntKind} {T T' : TypeId} {x y : Operand} {a b : Int} (hx : ρ x = .int kd a) (hy : ρ y = .int kd b) : Does P ⟨dst, .binOp .lss T x y T', ty, pos, aft, g⟩ ρ w (.bool (decide (a < b))) w :=
  does_run rfl (by simp [execOp, hx, hy, binOp, eqGuard, Op.intCmp])
theorem leq {kd : IntKind} {T T' : TypeId} {x y : Operand} {a b : Int} (hx : ρ x = .int kd a) (hy : ρ y = .int kd b) : Does P ⟨dst, .binOp .leq T x y T', ty, pos, aft, g⟩ ρ w (.bool (decide (a ≤ b))) w :=
  does_run rfl (by simp [execOp, hx, hy, binOp, eqGuard, Op.intCmp])
theorem gtr {kd : IntKind} {T T' : TypeId} {x y : Operand} {a b : Int} (hx : ρ x = .int kd a) (hy : ρ y = .int kd b) : Does P ⟨dst, .binOp .gtr T x y T', ty, pos, aft, g⟩ ρ w (.bool (decide (b < a))) w :=
  does_run rfl (by simp [execOp, hx, hy, binOp, eqGuard, Op.intCmp])
theorem geq {kd : IntKind} {T T' : TypeId} {x y : Operand} {a b : Int} (hx : ρ x = .int kd a) (hy : ρ y = .int kd b) : Does P ⟨dst, .binOp .geq T x y T', ty, pos, aft, g⟩ ρ w (.bool (decide (b ≤ a))) w :=
  does_run rfl (by simp [execOp, hx, hy, binOp, eqGuard, Op.intCmp])
theorem eqI {kd : IntKind} {T T' : TypeId} {x y : Operand} {a b : Int} (hx : ρ x = .int kd a) (hy : ρ y = .int kd b) : Does P ⟨dst, .binOp .eql T x y T', ty, pos, aft, g⟩ ρ w (.bool (decide (a = b))) w :=
  does_run rfl (by simp [execOp, hx, hy, binOp, eqGuard, Op.intCmp]; rfl)
theorem neI {kd : IntKind} {T T' : TypeId} {x y : Operand} {a b : Int} (hx : ρ x = .int kd a) (hy : ρ y = .int kd b) : Does P ⟨dst, .binOp .neq T x y T', ty, pos, aft, g⟩ ρ w (.bool (decide (a ≠ b))) w :=
  does_run rfl (by
    have : (a != b) = decide (a ≠ b) := by by_cases h : a = b <;> simp [h]
    simp [execOp, hx, hy, binOp, eqGuard, Op.intCmp, this])
theorem not_ {T : TypeId} {x : Operand} {b : Bool} (hx : ρ x = .bool b) : Does P ⟨dst, .unOp .not T x, ty, pos, aft, g⟩ ρ w (.bool (!b)) w := does_run rfl (by simp [execOp, hx, Op.unary])
theorem neg {T : TypeId} {kd : IntKind} {x : Operand} {a c : Int} (hx : ρ x = .int kd a) (hc : kd.wrap (0 - a) = c) : Does P ⟨dst, .unOp .neg T x, ty, pos, aft, g⟩ ρ w (.int kd c) w := does_run rfl (by simp [execOp, hx, Op.unary, Op.intArith]; simpa using hc)
theorem com {T : TypeId} {kd : IntKind} {x : Operand} {a c : Int} (hx : ρ x = .int kd a) (hc : kd.wrap (BitVec.ofInt kd.bits (if kd.signed then -1 else kd.max) ^^^ BitVec.ofInt kd.bits a).toNat = c) : Does P ⟨dst, .unOp .xor T x, ty, pos, aft, g⟩ ρ w (.int kd c) w :=
  does_run rfl (by simp only [execOp, hx, Op.unary, Op.intBits, hc]; simp)
/-- A conversion between kinds of whole numbers. -/
theorem cvI {S T : TypeId} {kd kx : IntKind} {x : Operand} {a c : Int} {ds : TypeDesc} (hS : P.underlying S = some ds) (hT : P.underlying T = some (.int kd)) (hx : ρ x = .int kx a) (hc : kd.wrap a = c) : Does P ⟨dst, .convert S T x, ty, pos, aft, g⟩ ρ w (.int kd c) w :=
  does_run rfl (by simp [execOp, hx, convert, run_underlying hS, run_underlying hT, Conv.intToInt, hc])

/-! ### Bools, strings, ==  -/
theorem eqB {T T' : TypeId} {x y : Operand} {a b : Bool} (hT : P.underlying T = some .bool) (hx : ρ x = .bool a) (hy : ρ y = .bool b) : Does P ⟨dst, .binOp .eql T x y T', ty, pos, aft, g⟩ ρ w (.bool (a == b)) w :=
  does_run rfl (by simp [execOp, hx, hy, binOp, eqGuard, run_equal_bool w T a b hT])
theorem neB {T T' : TypeId} {x y : Operand} {a b : Bool} (hT : P.underlying T = some .bool) (hx : ρ x = .bool a) (hy : ρ y = .bool b) : Does P ⟨dst, .binOp .neq T x y T', ty, pos, aft, g⟩ ρ w (.bool (!(a == b))) w :=
  does_run rfl (by simp [execOp, hx, hy, binOp, eqGuard, run_equal_bool w T a b hT])
theorem eqS {T T' : TypeId} {x y : Operand} {a b : ByteArray} (hx : ρ x = .string a) (hy : ρ y = .string b) : Does P ⟨dst, .binOp .eql T x y T', ty, pos, aft, g⟩ ρ w (.bool (a.toList == b.toList)) w :=
  does_run rfl (by simp [execOp, hx, hy, binOp, eqGuard, Op.stringOp])
theorem neS {T T' : TypeId} {x y : Operand} {a b : ByteArray} (hx : ρ x = .string a) (hy : ρ y = .string b) : Does P ⟨dst, .binOp .neq T x y T', ty, pos, aft, g⟩ ρ w (.bool (!(a.toList == b.toList))) w :=
  does_run rfl (by simp [execOp, hx, hy, binOp, eqGuard, Op.stringOp])
theorem ltS {T T' : TypeId} {x y : Operand} {a b : ByteArray} (hx : ρ x = .string a) (hy : ρ y = .string b) : Does P ⟨dst, .binOp .lss T x y T', ty, pos, aft, g⟩ ρ w (.bool (Op.bytesLess a.toList b.toList)) w :=
  does_run rfl (by simp [execOp, hx, hy, binOp, eqGuard, Op.stringOp])

/-! ### len -/
theorem lenSl {e T : TypeId} {x : Operand} {A : Option Addr} {n c : Nat} (hT : P.underlying T = some (.slice e)) (hx : ρ x = .slice A n c) : Does P ⟨dst, .call ⟨.builtin .len, #[x], #[T]⟩, ty, pos, aft, g⟩ ρ w (.int .i64 (n : Int)) w :=
  does_run rfl (by simp [execOp, resolve, invoke, builtin, Builtin.len_, run_underlying hT, hx, goInt])
theorem lenS {T : TypeId} {x : Operand} {s : ByteArray} (hT : P.underlying T = some .string) (hx : ρ x = .string s) : Does P ⟨dst, .call ⟨.builtin .len, #[x], #[T]⟩, ty, pos, aft, g⟩ ρ w (.int .i64 (s.size : Int)) w :=
  does_run rfl (by simp [execOp, resolve, invoke, builtin, Builtin.len_, run_underlying hT, hx, goInt])

/-! ### addresses, reads -/
theorem idxAddr {e T : TypeId} {sz : Nat} {x i : Operand} {ki : IntKind} {ad : Addr} {n c : Nat} {j : Int} (hT : P.underlying T = some (.slice e)) (hs : ∀ w, (sizeOf e).run P w = .ok sz w) (hx : ρ x = .slice (some ad) n c) (hi : ρ i = .int ki j) (h0 : 0 ≤ j ∧ j < (n : Int)) :
    Does P ⟨dst, .indexAddr T x i, ty, pos, aft, g⟩ ρ w (.pointer (some (ad.add (j.toNat * sz)))) w :=
  does_run rfl (by simp [execOp, hx, hi, Instr.indexAt, asIntOf, run_underlying hT, hs, h0.1, h0.2])
theorem fldAddr {S : TypeId} {fields : Array Field} {fd : Field} {x : Operand} {ad : Addr} {i : Nat} (hS : P.underlying S = some (.struct fields)) (hf : fields[i]? = some fd) (hx : ρ x = .pointer (some ad)) (hp : ∀ w, (fieldPlace ad fd).run P w = .ok (ad.add fd.offset) w) :
    Does P ⟨dst, .fieldAddr S x i, ty, pos, aft, g⟩ ρ w (.pointer (some (ad.add fd.offset))) w :=
  does_run rfl (by simp [execOp, hx, Instr.fieldAt, run_underlying hS, hf, Instr.sureAddr, hp])
theorem load1 {T : TypeId} {x : Operand} {ad : Addr} {v : Value} (hT : ∀ w, (isAgg T).run P w = .ok false w) (hx : ρ x = .pointer (some ad)) (hc : w.cell? ad = some v) : Does P ⟨dst, .load T x, ty, pos, aft, g⟩ ρ w v w :=
  does_run rfl (by simp [execOp, hx, Instr.loadAt, Instr.sureAddr, loadVar, hT, hc])
end
end Go.Proofs.Ytgfficbkajcdpaa.X

namespace Go.Proofs.Ytgfficbkajcdpaa.X
open Go

theorem elem_eq {P : Program} {T e : TypeId} (h : P.underlying T = some (.slice e)) : P.underlying T = some (.slice (P.elem T)) := by
  have : P.elem T = e := by simp [Program.elem, h]
  rw [this]; exact h
theorem elem_is {P : Program} {T e : TypeId} (h : P.underlying T = some (.slice e)) : P.elem T = e := by simp [Program.elem, h]

section
variable {P : Program} {ρ : Operand → Value} {w : World} {dst : Option Tmp} {ty : TypeId} {pos : String} {aft : Array Edge} {g : Option (Nat × Bool)}

/-! ### reads -/
theorem load1B {T : TypeId} {x : Operand} {b i : Nat} {cs : List Value} {e : TypeId} {v : Value} (hT : ∀ w, (isAgg T).run P w = .ok false w) (hB : Blk w b cs e) (hx : ρ x = .pointer (some ⟨b, i, none⟩)) (hv : cs[i]? = some v) : Does P ⟨dst, .load T x, ty, pos, aft, g⟩ ρ w v w :=
  load1 hT hx (by rw [hB.cell]; exact hv)
theorem loadN {T : TypeId} {x : Operand} {ad : Addr} {n : Nat} {cs : List Value} (hT : ∀ w, (isAgg T).run P w = .ok true w) (hs : ∀ w, (sizeOf T).run P w = .ok n w) (hx : ρ x = .pointer (some ad)) (hl : cs.length = n) (hc : ∀ j u, cs[j]? = some u → w.cell? (ad.add j) = some u) :
    Does P ⟨dst, .load T x, ty, pos, aft, g⟩ ρ w (.agg cs.toArray) w := by
  subst hl
  exact does_run rfl (by simp [execOp, hx, Instr.loadAt, Instr.sureAddr, loadVar, hT, hs, run_loadCells_list w ad cs hc])
theorem loadNB {T : TypeId} {x : Operand} {b i n : Nat} {cs : List Value} {e : TypeId} (hT : ∀ w, (isAgg T).run P w = .ok true w) (hs : ∀ w, (sizeOf T).run P w = .ok n w) (hB : Blk w b cs e) (hx : ρ x = .pointer (some ⟨b, i, none⟩)) {vs : List Value} (hv : (cs.drop i).take n = vs) (hl : vs.length = n) :
    Does P ⟨dst, .load T x, ty, pos, aft, g⟩ ρ w (.agg vs.toArray) w :=
  loadN hT hs hx hl (fun j u hu => by
    rw [add_mk, hB.cell]
    rw [← hv, List.getElem?_take] at hu
    split at hu
    · rwa [List.getElem?_drop] at hu
    · cases hu)
/-- An element of a slice that is read, of one cell. -/
theorem loadSl {α : Type} {K : Kd α} {lo hi : Nat} {T : TypeId} {x : Operand} {ad : Addr} {n j : Nat} {xs : List α} {y : α} {v : Value} (hT : ∀ w, (isAgg T).run P w = .ok false w) (hS : Sl K lo hi w (some ad) n xs) (hy : xs[j]? = some y) (hx : ρ x = .pointer (some (ad.add (j * K.sz)))) (hv : ∀ cs, K.R lo hi w y cs → cs[0]? = some v) :
    Does P ⟨dst, .load T x, ty, pos, aft, g⟩ ρ w v w := by
  obtain ⟨ad', cs, e, hr, hq⟩ := hS.get j y hy
  cases e
  exact load1 hT hx (by have := hq 0 v (hv cs hr); rwa [Nat.add_zero] at this)
/-- Of several cells. -/
theorem loadSlN {α : Type} {K : Kd α} {lo hi : Nat} {T : TypeId} {x : Operand} {ad : Addr} {n j m : Nat} {xs : List α} {y : α} {vs : List Value} (hT : ∀ w, (isAgg T).run P w = .ok true w) (hs : ∀ w, (sizeOf T).run P w = .ok m w) (hS : Sl K lo hi w (some ad) n xs) (hy : xs[j]? = some y) (hx : ρ x = .pointer (some (ad.add (j * K.sz))))
    (hv : ∀ cs, K.R lo hi w y cs → cs = vs) (hm : vs.length = m) : Does P ⟨dst, .load T x, ty, pos, aft, g⟩ ρ w (.agg vs.toArray) w := by
  obtain ⟨ad', cs, e, hr, hq⟩ := hS.get j y hy
  cases e
  have hcs := hv cs hr
  subst hcs
  exact loadN hT hs hx hm (fun i u hu => by rw [add_add]; exact hq i u hu)

/-! ### slices of slices, of strings -/
theorem cutH {T e : TypeId} {sz : Nat} {x h : Operand} {A : Option Addr} {n c : Nat} {kh : IntKind} {m : Int} (hT : P.underlying T = some (.slice e)) (hs : ∀ w, (sizeOf e).run P w = .ok sz w) (hx : ρ x = .slice A n c) (hh : ρ h = .int kh m) (h0 : 0 ≤ m ∧ m ≤ (c : Int)) :
    Does P ⟨dst, .slice T x none (some h) none, ty, pos, aft, g⟩ ρ w (.slice (if c = 0 then A else A.map (·.add (0 * sz))) m.toNat c) w :=
  does_run rfl (by
    have := run_slice_h (P := P) w T A n c (elem_eq hT) kh m h0.1 h0.2
    simp [execOp, hx, hh, run_sliceAt_slice _ _ _ _ _ _ (elem_eq hT), this, elem_is hT, hs, sliced, Result.andThen])
theorem cutL {T e : TypeId} {sz : Nat} {x l : Operand} {A : Option Addr} {n c : Nat} {kl : IntKind} {m : Int} (hT : P.underlying T = some (.slice e)) (hs : ∀ w, (sizeOf e).run P w = .ok sz w) (hx : ρ x = .slice A n c) (hl : ρ l = .int kl m) (h0 : 0 ≤ m ∧ m ≤ (n : Int)) :
    Does P ⟨dst, .slice T x (some l) none none, ty, pos, aft, g⟩ ρ w (.slice (if c = m.toNat then A else A.map (·.add (m.toNat * sz))) (n - m.toNat) (c - m.toNat)) w :=
  does_run rfl (by
    have := run_slice_l (P := P) w T A n c (elem_eq hT) kl m h0.1 h0.2
    simp [execOp, hx, hl, run_sliceAt_slice _ _ _ _ _ _ (elem_eq hT), this, elem_is hT, hs, sliced, Result.andThen])
theorem cutLH {T e : TypeId} {sz : Nat} {x l h : Operand} {A : Option Addr} {n c : Nat} {kl kh : IntKind} {p q : Int} (hT : P.underlying T = some (.slice e)) (hs : ∀ w, (sizeOf e).run P w = .ok sz w) (hx : ρ x = .slice A n c) (hl : ρ l = .int kl p) (hh : ρ h = .int kh q) (h0 : 0 ≤ p ∧ p ≤ q ∧ q ≤ (c : Int)) :
    Does P ⟨dst, .slice T x (some l) (some h) none, ty, pos, aft, g⟩ ρ w (.slice (if c = p.toNat then A else A.map (·.add (p.toNat * sz))) (q.toNat - p.toNat) (c - p.toNat)) w :=
  does_run rfl (by
    have := run_slice_lh (P := P) w T A n c (elem_eq hT) kl kh p q h0.1 h0.2.1 h0.2.2
    simp [execOp, hx, hl, hh, run_sliceAt_slice _ _ _ _ _ _ (elem_eq hT), this, elem_is hT, hs, sliced, Result.andThen])
/-- A cut's address, of a row that is read. -/
theorem cutH_A (c sz : Nat) (A : Option Addr) : (if c = 0 then A else A.map (·.add (0 * sz))) = A := by
  split
  · rfl
  · cases A with
    | none => rfl
    | some a => simp [add_zero]
theorem cutHr {T e : TypeId} {sz : Nat} {x h : Operand} {A : Option Addr} {n c : Nat} {kh : IntKind} {m : Int} (hT : P.underlying T = some (.slice e)) (hs : ∀ w, (sizeOf e).run P w = .ok sz w) (hx : ρ x = .slice A n c) (hh : ρ h = .int kh m) (h0 : 0 ≤ m ∧ m ≤ (c : Int)) :
    Does P ⟨dst, .slice T x none (some h) none, ty, pos, aft, g⟩ ρ w (.slice A m.toNat c) w := by
  have := cutH (P := P) (ρ := ρ) (w := w) (dst := dst) (ty := ty) (pos := pos) (aft := aft) (g := g) hT hs hx hh h0
  rwa [cutH_A] at this

/-! ### conversions of bytes -/
theorem str {S T e : TypeId} {x : Operand} {A : Option Addr} {n c : Nat} {l : List UInt8} {K : Kd UInt8} {lo hi : Nat} (hS : P.underlying S = some (.slice e)) (he : P.underlying e = some (.int .u8)) (hT : P.underlying T = some .string) (hK : K.sz = 1) (hR : ∀ y cs, K.R lo hi w y cs → cs = [.int .u8 (y.toNat : Int)]) (hx : ρ x = .slice A n c) (hs : Sl K lo hi w A n l) :
    Does P ⟨dst, .convert S T x, ty, pos, aft, g⟩ ρ w (.string ⟨l.toArray⟩) w := by
  refine does_run rfl ?_
  have key : (convert S T (.slice A n c)).run P w = .ok (.string ⟨l.toArray⟩) w := by
    rcases Nat.eq_zero_or_pos n with h0 | h0
    · have hl : l = [] := List.eq_nil_of_length_eq_zero (hs.len.trans h0)
      subst hl
      subst h0
      cases A with
      | none => exact run_convert_bytes_nil w S e hS he 0 c T hT
      | some ad =>
        rw [run_convert_bytes_string w S T e _ 0 c hS he hT, run_bytesToString w ad 0 c [] (by rfl)]
        rfl
    · obtain ⟨ad, e1, _, _, hq⟩ := hs.at_ h0
      subst e1
      rw [run_convert_bytes_string w S T e _ n c hS he hT, run_bytesToString w ad n c (l.map fun y => (y.toNat : Int)) ?_, foldl_push_bytes]
      · have hm : (l.map fun y => (y.toNat : Int)).map (fun n => UInt8.ofNat n.toNat) = l := by
          rw [List.map_map]
          conv => rhs; rw [← List.map_id l]
          exact List.map_congr_left fun y _ => by simp
        rw [hm]
        simp [ByteArray.empty, ByteArray.emptyWithCapacity]
        rfl
      · have := run_loadCells_list (P := P) w ad (l.map fun y => Value.int .u8 (y.toNat : Int)) (fun j v hj => by
          rw [List.getElem?_map] at hj
          obtain ⟨y, hy, rfl⟩ := Option.map_eq_some_iff.1 hj
          obtain ⟨cs, hr, hcell⟩ := hq j y hy
          have := hcell 0 (.int .u8 (y.toNat : Int)) (by rw [hR y cs hr]; rfl)
          rwa [hK, Nat.mul_one, Nat.add_zero] at this)
        rw [List.length_map, hs.len] at this
        rw [List.map_map]
        exact this
  simp [execOp, hx, key]

end

section
variable {P : Program} {f : FuncId} {N : Nat} {rd : Option Nat} {k : List Item} {E : Env} {D : List Deferred} {w : World} {R : Out → World → Prop} {ops : Array Oper} {l : List Oper} {dst : Option Tmp} {ty : TypeId} {pos : String} {aft : Array Edge} {g : Option (Nat × Bool)}

/-- What an operation does, told by a fact alone. -/
def DoesE (P : Program) (o : Oper) (ρ : Operand → Value) (w : World) (Q : Value → World → Prop) : Prop := ∃ v w', Does P o ρ w v w' ∧ Q v w'
theorem Does.e {P : Program} {o : Oper} {ρ : Operand → Value} {w : World} {v : Value} {w' : World} {Q : Value → World → Prop} (h : Does P o ρ w v w') (hq : Q v w') : DoesE P o ρ w Q := ⟨v, w', h, hq⟩
theorem DoesE.mono {P : Program} {o : Oper} {ρ : Operand → Value} {w : World} {Q Q' : Value → World → Prop} (h : DoesE P o ρ w Q) (hq : ∀ v w', Q v w' → Q' v w') : DoesE P o ρ w Q' := let ⟨v, w', h1, h2⟩ := h; ⟨v, w', h1, hq v w' h2⟩

/-- What an operation's guard asks. -/
def Wanted (N : Nat) (E : Env) (ops : Array Oper) (o : Option (Nat × Bool)) : Prop := ∀ tmps, Rep N E tmps → ∀ x : Oper, x.guard = o → Region.wanted x (yielded ops tmps) = true
theorem wN : Wanted N E ops none := fun _ _ x hx => by simp [Region.wanted, hx]
theorem wG {j d : Nat} {b : Bool} (hj : (ops[j]?).bind (·.dst) = some d) (hb : E.ev (.tmp d) = .bool b) (hdN : Nat.blt d N = true) : Wanted N E ops (some (j, b)) := fun tmps ht x hx => by
  have h1 : tmps.getD d undef = .bool b := (ht.at_ d).trans hb
  have hs := ht.size
  have hlt : d < tmps.size := by rw [hs]; exact blt_lt hdN
  have h2 : tmps[d]? = some (.bool b) := by
    rw [Array.getElem?_eq_getElem hlt]
    simpa [Array.getD, hlt] using h1
  simp [Region.wanted, hx, yielded, hj, h2]

theorem opw {o : Oper} {v : Value} {w' : World} (hw : Wanted N E ops o.guard) (hd : dstOk N o.dst = true) (ho : Does P o E.ev w v w') (h : Ops P f N rd ops l k (E.put o.dst v) D w' R) : Ops P f N rd ops (o :: l) k E D w R :=
  opW (fun tmps ht => hw tmps ht o rfl) (dstOk.lt hd) ho h

theorem opE {o : Oper} {Q : Value → World → Prop} (hw : Wanted N E ops o.guard) (hd : dstOk N o.dst = true) (ho : DoesE P o E.ev w Q) (h : ∀ v w', Q v w' → Ops P f N rd ops l k (E.put o.dst v) D w' R) : Ops P f N rd ops (o :: l) k E D w R :=
  let ⟨v, w', h1, h2⟩ := ho; opw hw hd h1 (h v w' h2)
/-- A test: both ways. -/
theorem opB {o : Oper} {d : Nat} {b : Bool} {w' : World} (hw : Wanted N E ops o.guard) (hd : dstOk N o.dst = true) (he : o.dst = some d) (ho : Does P o E.ev w (.bool b) w') (h1 : b = true → Ops P f N rd ops l k (E.put (some d) (.bool true)) D w' R) (h0 : b = false → Ops P f N rd ops l k (E.put (some d) (.bool false)) D w' R) : Ops P f N rd ops (o :: l) k E D w R := by
  cases b with
  | true => exact opw hw hd ho (by rw [he]; exact h1 rfl)
  | false => exact opw hw hd ho (by rw [he]; exact h0 rfl)
theorem opP {o : Oper} {d : Nat} {p : Prop} [Decidable p] {w' : World} (hw : Wanted N E ops o.guard) (hd : dstOk N o.dst = true) (he : o.dst = some d) (ho : Does P o E.ev w (.bool (decide p)) w') (h1 : p → Ops P f N rd ops l k (E.put (some d) (.bool true)) D w' R) (h0 : ¬ p → Ops P f N rd ops l k (E.put (some d) (.bool false)) D w' R) : Ops P f N rd ops (o :: l) k E D w R :=
  opB hw hd he ho (fun h => h1 (of_decide_eq_true h)) (fun h => h0 (of_decide_eq_false h))

end

/-! ### new blocks, stores -/
section
variable {P : Program} {ρ : Operand → Value} {w : World} {dst : Option Tmp} {ty : TypeId} {pos : String} {aft : Array Edge} {g : Option (Nat × Bool)}
theorem allocE {T : TypeId} {z : Value} (hz : ∀ w, (zeroValue T).run P w = .ok z w) {zs : List Value} (hzs : z.cells = zs.toArray) :
    DoesE P ⟨dst, .alloc T, ty, pos, aft, g⟩ ρ w fun v w' => v = .pointer (some ⟨w.heap.size, 0, none⟩) ∧ Blk w' w.heap.size zs T ∧ Keep w w' ∧ w'.heap.size = w.heap.size + 1 :=
  (does_run (w' := w.alloc (.cells zs.toArray T)) rfl (by simp [execOp, Instr.alloc, hz, newVar, newRow, hzs])).e ⟨rfl, Blk.new w zs T, Keep.alloc w _, by simp⟩
theorem boxE {T : TypeId} {x : Operand} {v : Value} (hx : ρ x = v) {zs : List Value} (hzs : v.cells = zs.toArray) :
    DoesE P ⟨dst, .box T x, ty, pos, aft, g⟩ ρ w fun v w' => v = .pointer (some ⟨w.heap.size, 0, none⟩) ∧ Blk w' w.heap.size zs T ∧ Keep w w' ∧ w'.heap.size = w.heap.size + 1 :=
  (does_run (w' := w.alloc (.cells zs.toArray T)) rfl (by simp [execOp, Instr.box, hx, newVar, newRow, hzs])).e ⟨rfl, Blk.new w zs T, Keep.alloc w _, by simp⟩
/-- A store of one cell into a block that is known whole. -/
theorem storeE {T : TypeId} {a x : Operand} {b i : Nat} {cs : List Value} {e : TypeId} {v : Value} (hs : ∀ w, (sizeOf T).run P w = .ok 1 w) (hB : Blk w b cs e) (ha : ρ a = .pointer (some ⟨b, i, none⟩)) (hx : ρ x = v) (hi : Nat.blt i cs.length = true) (h1 : v.oneCell' = true) :
    DoesE P ⟨none, .store T a x, ty, pos, aft, g⟩ ρ w fun _ w' => Blk w' b (cs.set i v) e ∧ Ext (fun k => k = b) w w' ∧ w'.heap.size = w.heap.size := by
  have hi := blt_lt hi
  have hc : w.cell? ⟨b, i, none⟩ = some (cs[i]'hi) := by rw [hB.cell]; exact List.getElem?_eq_getElem hi
  have hf := hB.free i
  have hv : v.cells = #[v] := by cases v <;> first | rfl | cases h1
  have hst : (store ⟨b, i, none⟩ v).run P w = .ok () (w.setCell ⟨b, i, none⟩ v) := by
    cases v <;> first | (simp [store, Sem.run, hc, hf]; done) | cases h1
  refine (does_skip (w' := w.setCell ⟨b, i, none⟩ v) rfl ?_).e ⟨hB.set i v, Ext.setCell w ⟨b, i, none⟩ v, by simp⟩
  simp only [execOp, ha, hx, Instr.storeAt, Instr.sureAddr, storeVar, hv]
  simp [hs, storeCells, add_zero, hst]
/-- A store of a whole struct into a block of its size. -/
theorem storeNE {T : TypeId} {a x : Operand} {b n : Nat} {cs vs : List Value} {e : TypeId} (hs : ∀ w, (sizeOf T).run P w = .ok n w) (hB : Blk w b cs e) (ha : ρ a = .pointer (some ⟨b, 0, none⟩)) (hx : ρ x = .agg vs.toArray) (hn : vs.length = n) (hl : cs.length = n) (h1 : ∀ v, v ∈ vs → v.oneCell' = true) :
    DoesE P ⟨none, .store T a x, ty, pos, aft, g⟩ ρ w fun _ w' => Blk w' b vs e ∧ Ext (fun k => k = b) w w' ∧ w'.heap.size = w.heap.size := by
  have hst := run_storeCells_from (P := P) b e vs 0 cs.toArray w hB (by simp [hn, hl]) h1
  simp only [List.take_zero, List.nil_append] at hst
  have hB' : Blk (w.setRow b vs.toArray) b vs e := by
    unfold Blk at hB ⊢
    simp only [World.setRow, Array.getElem?_modify, if_true, hB, Option.map_some]
  have hext : Ext (fun k => k = b) w (w.setRow b vs.toArray) := ⟨rfl, rfl, rfl, by simp [World.setRow], fun k _ hk => by simp only [World.setRow, Array.getElem?_modify]; rw [if_neg (fun h => hk h.symm)]⟩
  refine (does_skip (w' := w.setRow b vs.toArray) rfl ?_).e ⟨hB', hext, by simp [World.setRow]⟩
  simp only [execOp, ha, hx, Instr.storeAt, Instr.sureAddr, storeVar, Value.cells]
  simp [hs, hn, hst]

/-! ### elements by index -/
/-- The address of element j of a slice that is read. -/
theorem idxS {α : Type} {K : Kd α} {lo hi : Nat} {e T : TypeId} {x i : Operand} {ki : IntKind} {A : Option Addr} {n c : Nat} {xs : List α} {j : Int} (hS : Sl K lo hi w A n xs) (hT : P.underlying T = some (.slice e)) (hs : ∀ w, (sizeOf e).run P w = .ok K.sz w) (hx : ρ x = .slice A n c) (hi : ρ i = .int ki j) (h0 : 0 ≤ j ∧ j < (n : Int)) :
    Does P ⟨dst, .indexAddr T x i, ty, pos, aft, g⟩ ρ w (.pointer (some ((A.getD default).add (j.toNat * K.sz)))) w := by
  obtain ⟨ad, e1, _⟩ := hS.at_ (by omega)
  subst e1
  exact idxAddr hT hs hx hi h0
theorem loadS {α : Type} {K : Kd α} {lo hi : Nat} {T : TypeId} {x : Operand} {A : Option Addr} {n j : Nat} {xs : List α} {y : α} {v : Value} (hT : ∀ w, (isAgg T).run P w = .ok false w) (hS : Sl K lo hi w A n xs) (hy : xs[j]? = some y) (hx : ρ x = .pointer (some ((A.getD default).add (j * K.sz)))) (hv : ∀ cs, K.R lo hi w y cs → cs[0]? = some v) :
    Does P ⟨dst, .load T x, ty, pos, aft, g⟩ ρ w v w := by
  obtain ⟨ad, cs, e, hr, hq⟩ := hS.get j y hy
  subst e
  exact load1 hT hx (by have := hq 0 v (hv cs hr); rwa [Nat.add_zero] at this)
theorem loadSN {α : Type} {K : Kd α} {lo hi : Nat} {T : TypeId} {x : Operand} {A : Option Addr} {n j m : Nat} {xs : List α} {y : α} {vs : List Value} (hT : ∀ w, (isAgg T).run P w = .ok true w) (hs : ∀ w, (sizeOf T).run P w = .ok m w) (hS : Sl K lo hi w A n xs) (hy : xs[j]? = some y) (hx : ρ x = .pointer (some ((A.getD default).add (j * K.sz))))
    (hv : ∀ cs, K.R lo hi w y cs → cs = vs) (hm : vs.length = m) : Does P ⟨dst, .load T x, ty, pos, aft, g⟩ ρ w (.agg vs.toArray) w := by
  obtain ⟨ad, cs, e, hr, hq⟩ := hS.get j y hy
  subst e
  have hcs := hv cs hr
  subst hcs
  exact loadN hT hs hx hm (fun i u hu => by rw [add_add]; exact hq i u hu)
/-- A field's address in a block. -/
theorem fldB {S : TypeId} {fields : Array Field} {fd : Field} {x : Operand} {b o i j n : Nat} (hS : P.underlying S = some (.struct fields)) (hf : fields[i]? = some fd) (hx : ρ x = .pointer (some ⟨b, o, none⟩)) (hn : ∀ w, (sizeOf fd.type).run P w = .ok (n + 1) w) (hj : o + fd.offset = j) :
    Does P ⟨dst, .fieldAddr S x i, ty, pos, aft, g⟩ ρ w (.pointer (some ⟨b, j, none⟩)) w := by
  have := fldAddr (P := P) (ρ := ρ) (w := w) (dst := dst) (ty := ty) (pos := pos) (aft := aft) (g := g) (ad := ⟨b, o, none⟩) hS hf hx (fun w => by simp [fieldPlace, hn])
  rw [add_mk, hj] at this
  exact this
/-- A field of a struct value: one cell. -/
theorem fld1 {S : TypeId} {fields : Array Field} {fd : Field} {x : Operand} {i : Nat} {cs : Array Value} {v : Value} (hS : P.underlying S = some (.struct fields)) (hf : fields[i]? = some fd) (hx : ρ x = .agg cs) (hT : ∀ w, (isAgg fd.type).run P w = .ok false w) (hv : cs[fd.offset]? = some v) :
    Does P ⟨dst, .field S x i, ty, pos, aft, g⟩ ρ w v w :=
  does_run rfl (by simp [execOp, hx, Instr.field, run_underlying hS, hf, asAgg, part, hT, hv])
theorem fldN {S : TypeId} {fields : Array Field} {fd : Field} {x : Operand} {i n : Nat} {cs vs : Array Value} (hS : P.underlying S = some (.struct fields)) (hf : fields[i]? = some fd) (hx : ρ x = .agg cs) (hT : ∀ w, (isAgg fd.type).run P w = .ok true w) (hs : ∀ w, (sizeOf fd.type).run P w = .ok n w) (hv : cs.extract fd.offset (fd.offset + n) = vs) :
    Does P ⟨dst, .field S x i, ty, pos, aft, g⟩ ρ w (.agg vs) w :=
  does_run rfl (by simp [execOp, hx, Instr.field, run_underlying hS, hf, asAgg, part, hT, hs, hv])
end
end Go.Proofs.Ytgfficbkajcdpaa.X

namespace Go.Proofs.Ytgfficbkajcdpaa.X
open Go

section
variable {P : Program} {f : FuncId} {N : Nat} {rd : Option Nat} {k : List Item} {E : Env} {D : List Deferred} {w : World} {R : Out → World → Prop} {ops : Array Oper} {l : List Oper} {dst : Option Tmp} {ty : TypeId} {pos : String} {aft : Array Edge} {g : Option (Nat × Bool)}

/-! ### 1. Calls -/
/-- 'f(..)', f a function by its name. -/
theorem callE {ρ : Operand → Value} {G : FuncId} {xs : List Operand} {tys : Array TypeId} {vs : List Value} {R' : Value → World → Prop} (hc : Ret P G vs.toArray w R') (hG : ∀ args w, (callFunc G args).run P w = .ok (.enter G args) w) (hv : xs.map ρ = vs) (hf : ρ (.func G) = .func (.func G) #[] #[]) :
    DoesE P ⟨dst, .call ⟨.value (.func G), xs.toArray, tys⟩, ty, pos, aft, g⟩ ρ w R' := by
  obtain ⟨v, w', hr, hs⟩ := hc.call
  refine (does_enter (g := G) (args := vs.toArray) rfl ?_ hs).e hr
  simp [execOp, resolve, hf, Deferred.ofValue, invoke, hG, ← hv]
/-- 'x(..)', x a function value: what it captured comes behind. -/
theorem callVE {ρ : Operand → Value} {G : FuncId} {x : Operand} {cap : List Value} {xs : List Operand} {tys : Array TypeId} {vs : List Value} {R' : Value → World → Prop} (hx : ρ x = .func (.func G) #[] cap.toArray) (hc : Ret P G (vs ++ cap).toArray w R') (hG : ∀ args w, (callFunc G args).run P w = .ok (.enter G args) w) (hv : xs.map ρ = vs) :
    DoesE P ⟨dst, .call ⟨.value x, xs.toArray, tys⟩, ty, pos, aft, g⟩ ρ w R' := by
  obtain ⟨v, w', hr, hs⟩ := hc.call
  refine (does_enter (g := G) (args := (vs ++ cap).toArray) rfl ?_ hs).e hr
  simp [execOp, resolve, hx, Deferred.ofValue, invoke, hG, ← hv]
/-- A function value is made. -/
theorem mkFunc {ρ : Operand → Value} {G : FuncId} {cap : List Operand} {vs : List Value} (hv : cap.map ρ = vs) : Does P ⟨dst, .makeFunc (.func G) #[] cap.toArray, ty, pos, aft, g⟩ ρ w (.func (.func G) #[] vs.toArray) w :=
  does_run rfl (by simp [execOp, Instr.makeFunc, ← hv])

/-- A call of which one doesn't know whether it panics (a function's frame). -/
theorem opCallO {f : FuncId} {G : FuncId} {args : Array Value} {o : Oper} {R' : Out → World → Prop} (hc : Call P G args w R') (hw : Wanted N E ops o.guard) (hd : dstOk N o.dst = true) (hp : plain o.op = true) (hr : (execOp E.ev o).run P w = .ok (.enter G args) w)
    (h : ∀ z w', R' z w' → match z with | .ret v => Ops P f N none ops l k (E.put o.dst v) D w' R | .pan ch => Unw P f N (.panicking ch) E D w' R) : Ops P f N none ops (o :: l) k E D w R := by
  obtain ⟨z, w1, hz, hs⟩ := hc
  cases z with
  | ret v => exact opw hw hd (does_enter hp hr hs) (h _ w1 hz)
  | pan ch =>
    intro idx hi
    cases idx with
    | nil => simp at hi
    | cons i rest =>
      simp only [List.map_cons, List.cons.injEq] at hi
      obtain ⟨o', w', r, s⟩ := h _ w1 hz
      refine ⟨o', w', r, fun kind cs tmps hcs ht => ?_⟩
      obtain ⟨fr', s1, hm, hdf, hk, hf, fn, hfn⟩ := hs .normal (Fm f none kind tmps (.inRegion ops (i :: rest) :: k) D .run :: cs)
      obtain ⟨fr, s2, hl⟩ := s kind cs tmps (.inRegion ops (i :: rest) :: k) ht
      refine ⟨_, .head (step_lone_go ?_) (s1.trans (.head (step_lone_go ?_) s2)), fr, rfl, hl⟩
      · rw [stepG_op' (fr := Fm f none kind tmps (.inRegion ops (i :: rest) :: k) D .run) rfl rfl hi.1 (hw tmps ht o rfl) hp, frame_eval, ht.eval]
        simp only [stepG.apply, Sem.runT_eq, hr, GStep.bare_after, if_true]
        rfl
      · simp [stepG, unwind, Frame.catches, hm, hdf, hf, hfn, Frame.raise]

/-- 'panic(x)', x an interface value that is not nil. -/
theorem opPanic {f : FuncId} {x : Operand} {T : TypeId} {v : Value} (hw : Wanted N E ops g) (hx : E.ev x = .iface T v) (h : Unw P f N (.panicking [{ v := .iface T v, recovered := false }]) E D w R) : Ops P f N none ops (⟨dst, .panic x, ty, pos, aft, g⟩ :: l) k E D w R := by
  intro idx hi
  cases idx with
  | nil => simp at hi
  | cons i rest =>
    simp only [List.map_cons, List.cons.injEq] at hi
    obtain ⟨o', w', r, s⟩ := h
    refine ⟨o', w', r, fun kind cs tmps hcs ht => ?_⟩
    obtain ⟨fr, s2, hl⟩ := s kind cs tmps (.inRegion ops (i :: rest) :: k) ht
    refine ⟨_, .head (step_lone_go ?_) s2, fr, rfl, hl⟩
    rw [stepG_op' (fr := Fm f none kind tmps (.inRegion ops (i :: rest) :: k) D .run) rfl rfl hi.1 (hw tmps ht _ rfl) rfl, frame_eval, ht.eval]
    simp [stepG.apply, execOp, hx, Instr.panic, goPanic, Sem.run, Frame.raise]
theorem mkIface {ρ : Operand → Value} {T : TypeId} {x : Operand} {v : Value} {d : TypeDesc} (hT : P.underlying T = some d) (hd : (match d with | .interface _ => false | _ => true) = true) (hx : ρ x = v) : Does P ⟨dst, .makeInterface T x, ty, pos, aft, g⟩ ρ w (.iface T v) w :=
  does_run rfl (by
    cases d <;> first | (cases hd; done) | simp [execOp, hx, Instr.makeInterface, run_underlying hT])

/-! ### 2. Slice literals; []byte(s) -/
/-- '[]T{x}', elements of one cell. -/
theorem lit1E {ρ : Operand → Value} {α : Type} {K : Kd α} {lo hi : Nat} {T e : TypeId} {z : Value} {x : Operand} {v : Value} {y : α} (hT : P.underlying T = some (.slice e)) (hs : ∀ w, (sizeOf e).run P w = .ok 1 w) (hz : ∀ w, (zeroValue e).run P w = .ok z w) (hz1 : z.oneCell' = true) (hx : ρ x = v) (hy : K.R lo hi w y [v]) :
    DoesE P ⟨dst, .buildSlice T 1 #[(0, x)], ty, pos, aft, g⟩ ρ w fun v' w' => v' = .slice (some ⟨w.heap.size, 0, none⟩) 1 1 ∧ Sl K (min lo w.heap.size) (max hi (w.heap.size + 1)) w' (some ⟨w.heap.size, 0, none⟩) 1 [y] ∧ Blk w' w.heap.size [v] e ∧ Keep w w' ∧ w'.heap.size = w.heap.size + 1 := by
  have h1 := K.one hy v (by simp)
  have hv : v.cells = #[v] := by cases v <;> first | rfl | cases h1
  have hzc : z.cells = #[z] := by cases z <;> first | rfl | cases hz1
  have hsz : K.sz = 1 := by have := K.len hy; simpa using this.symm
  have hB := Blk.new w [v] e
  have hk := Keep.alloc w (.cells #[v] e)
  have hfill : Instr.fill (fun i => some (i, 1)) #[z] [(0, v)] = some #[v] := by
    simp [Instr.fill, hv]
  have hrun : (Instr.buildSlice T 1 #[(0, v)]).run P w = .ok (.slice (some ⟨w.heap.size, 0, none⟩) 1 1) (w.alloc (.cells #[v] e)) := by
    have hr : (Array.range 1).map (fun x => [z][x % 1]?.getD default) = #[z] := by
      have h0 : Array.range 0 = #[] := rfl
      simp [Array.range_succ, h0]
    simp [Instr.buildSlice, run_underlying hT, hs, hz, hzc, newRow, hr, hfill]
  refine (does_run (w' := w.alloc (.cells #[v] e)) rfl (by simp [execOp, hx, hrun])).e ⟨rfl, ?_, hB, hk, by simp⟩
  refine ⟨rfl, by omega, fun _ => ⟨_, rfl, by simp only []; omega, by simp only []; omega, fun j x hx => ?_⟩⟩
  match j, hx with
  | 0, hx =>
    simp at hx
    subst hx
    refine ⟨[v], K.wide (K.move hy (hk.stand fun _ _ _ => id)) (by omega) (by omega), fun i u hu => ?_⟩
    match i, hu with
    | 0, hu =>
      simp at hu
      subst hu
      rw [add_mk, hB.cell]
      simp
/-- '[]byte(s)'. -/
theorem bytesE {ρ : Operand → Value} {S T e : TypeId} {d : TypeDesc} {x : Operand} {s : ByteArray} {K : Kd UInt8} (hS : P.underlying S = some d) (hT : P.underlying T = some (.slice e)) (he : P.underlying e = some (.int .u8)) (hx : ρ x = .string s) (hsz : s.size ≤ 9223372036854775807) (hK : K.sz = 1) (hR : ∀ lo hi w (y : UInt8), K.R lo hi w y [.int .u8 (y.toNat : Int)]) :
    DoesE P ⟨dst, .convert S T x, ty, pos, aft, g⟩ ρ w fun v w' => ∃ c, v = .slice (some ⟨w.heap.size, 0, none⟩) s.size c ∧ s.size ≤ c ∧ Sl K w.heap.size (w.heap.size + 1) w' (some ⟨w.heap.size, 0, none⟩) s.size s.data.toList ∧ Keep w w' ∧ w'.heap.size = w.heap.size + 1 := by
  have hr := Lib.run_convert_string_bytes (P := P) w S T e s hS hT he
  refine (does_run (w' := Lib.bytesWorld w e s) rfl (by simp [execOp, hx, hr])).e ⟨_, rfl, grownCap_ge w s.size 0 e, ?_, ⟨rfl, rfl, rfl, by rw [Lib.bytesWorld_size]; omega, fun k hk _ => Lib.bytesWorld_at_old w e s k hk⟩, Lib.bytesWorld_size w e s⟩
  refine ⟨by rw [Array.length_toList]; rfl, hsz, fun _ => ⟨_, rfl, Nat.le_refl _, Nat.lt_succ_self _, fun j y hy => ⟨[.int .u8 (y.toNat : Int)], hR _ _ _ y, fun i u hu => ?_⟩⟩⟩
  have hj : j < s.size := by
    have := (List.getElem?_eq_some_iff.1 hy).1
    rw [Array.length_toList] at this
    exact this
  match i, hu with
  | 0, hu =>
    simp only [List.getElem?_cons_zero, Option.some.injEq] at hu
    subst hu
    rw [add_mk, hK, Nat.zero_add, Nat.mul_one, Nat.add_zero, Lib.bytesWorld_cell w e s j hj, List.getD_eq_getElem?_getD, hy]
    rfl

end
end Go.Proofs.Ytgfficbkajcdpaa.X

namespace Go.Proofs.Ytgfficbkajcdpaa.X
open Go

/-- Data that its cells tell by themselves, whatever the world. -/
def Flat {α : Type} (K : Kd α) : Prop := ∀ {lo hi lo' hi' w w' x cs}, K.R lo hi w x cs → K.R lo' hi' w' x cs
theorem flat_plain {α : Type} {sz : Nat} {enc : α → List Value} {ok : α → Prop} {hl : ∀ x, (enc x).length = sz} {h1 : ∀ x u, u ∈ enc x → u.oneCell' = true} : Flat (Kd.plain sz enc ok hl h1) := fun h => h
theorem Reps.flat {α : Type} {K : Kd α} (hF : Flat K) {lo hi lo' hi' : Nat} {w w' : World} : ∀ {xs : List α} {cs : List Value}, Reps K lo hi w xs cs → Reps K lo' hi' w' xs cs
  | [], _, h => h
  | _ :: _, _, ⟨a, b, e, h1, h2⟩ => ⟨a, b, e, hF h1, Reps.flat hF h2⟩

/-- Bytes. -/
def KB : Kd UInt8 := Kd.plain 1 (fun c => [.int .u8 (c.toNat : Int)]) (fun _ => True) (fun _ => rfl) (fun _ u hu => by simp at hu; subst hu; rfl)
theorem KB_flat : Flat KB := fun h => h
theorem KB_R (lo hi : Nat) (w : World) (y : UInt8) : KB.R lo hi w y [.int .u8 (y.toNat : Int)] := ⟨rfl, trivial⟩
theorem KB_is {lo hi : Nat} {w : World} (y : UInt8) (cs : List Value) (h : KB.R lo hi w y cs) : cs = [.int .u8 (y.toNat : Int)] := h.1
theorem KB_0 {lo hi : Nat} {w : World} {y : UInt8} (cs : List Value) (h : KB.R lo hi w y cs) : cs[0]? = some (.int .u8 (y.toNat : Int)) := by rw [h.1]; rfl
/-- Ints. -/
def KI : Kd Int := Kd.plain 1 (fun c => [.int .i64 c]) (fun n => -9223372036854775808 ≤ n ∧ n ≤ 9223372036854775807) (fun _ => rfl) (fun _ u hu => by simp at hu; subst hu; rfl)
theorem KI_flat : Flat KI := fun h => h

/-- v: a row of the call's own, in one of the blocks of S. -/
def Mine {α : Type} (K : Kd α) (e : TypeId) (S : Nat → Prop) (lo hi : Nat) (w : World) (v : Value) (xs : List α) : Prop := ∃ b, Own K e b lo hi w v xs ∧ ∀ k, b = some k → S k

section
variable {α : Type} {K : Kd α} {e : TypeId} {S T : Nat → Prop} {lo hi : Nat} {w w' : World} {v : Value} {xs : List α}
theorem Mine.nil (K : Kd α) (e : TypeId) (S : Nat → Prop) (lo hi : Nat) (w : World) : Mine K e S lo hi w (.slice none 0 0) [] := ⟨none, Own.nil K e lo hi w, fun _ h => by cases h⟩
theorem Mine.slice (h : Mine K e S lo hi w v xs) : ∃ A c, v = .slice A xs.length c ∧ xs.length ≤ c ∧ xs.length ≤ 9223372036854775807 := let ⟨_, h, _⟩ := h; h.slice
theorem Mine.ext (h : Mine K e S lo hi w v xs) (x : Ext T w w') (hT : ∀ k, lo ≤ k → k < hi → ¬ T k) (hS : ∀ k, S k → ¬ T k) : Mine K e S lo hi w' v xs := let ⟨b, h, hb⟩ := h; ⟨b, h.ext x hT (fun k hk => hS k (hb k hk)), hb⟩
theorem Mine.keep (h : Mine K e S lo hi w v xs) (x : Keep w w') : Mine K e S lo hi w' v xs := let ⟨b, h, hb⟩ := h; ⟨b, h.keep x, hb⟩
theorem Mine.mono (h : Mine K e S lo hi w v xs) (hS : ∀ k, k < w.heap.size → S k → T k) : Mine K e T lo hi w v xs := let ⟨b, h, hb⟩ := h; ⟨b, h, fun k hk => hS k (h.lt k hk) (hb k hk)⟩
theorem Mine.wide (h : Mine K e S lo hi w v xs) {lo' hi' : Nat} (hl : lo' ≤ lo) (hh : hi ≤ hi') : Mine K e S lo' hi' w v xs := let ⟨b, h, hb⟩ := h; ⟨b, h.wide hl hh, hb⟩
theorem Mine.sl (h : Mine K e S lo hi w v xs) (hS : ∀ k, k < w.heap.size → S k → lo ≤ k ∧ k < hi) : ∃ A c, v = .slice A xs.length c ∧ xs.length ≤ c ∧ Sl K lo hi w A xs.length xs := let ⟨_, h, hb⟩ := h; h.sl fun k hk => hS k (h.lt k hk) (hb k hk)
theorem Own.flat (hF : Flat K) {b : Option Nat} {lo' hi' : Nat} (h : Own K e b lo hi w v xs) : Own K e b lo' hi' w v xs := let ⟨⟨cs, hr, ho⟩, hb⟩ := h; ⟨⟨cs, hr.flat hF, ho⟩, hb⟩
theorem Mine.flat (hF : Flat K) {lo' hi' : Nat} (h : Mine K e S lo hi w v xs) : Mine K e S lo' hi' w v xs := let ⟨b, h, hb⟩ := h; ⟨b, h.flat hF, hb⟩
/-- Read, of flat data: in the blocks from lo' to the world's end. -/
theorem Mine.slF (hF : Flat K) (h : Mine K e S lo hi w v xs) (lo' : Nat) (hS : ∀ k, S k → lo' ≤ k) : ∃ A c, v = .slice A xs.length c ∧ xs.length ≤ c ∧ Sl K lo' w.heap.size w A xs.length xs := (h.flat hF (lo' := lo') (hi' := w.heap.size)).sl fun k hk hs => ⟨hS k hs, hk⟩
end

section
variable {P : Program} {f : FuncId} {N : Nat} {rd : Option Nat} {k : List Item} {E : Env} {D : List Deferred} {w : World} {R : Out → World → Prop} {ops : Array Oper} {l : List Oper} {dst : Option Tmp} {ty : TypeId} {pos : String} {aft : Array Edge} {g : Option (Nat × Bool)}
/-- The element type's row of the table. -/
structure ElemInfo (P : Program) (e sz bytes : Nat) : Prop where
  ex : ∃ i z, P.info? e = some i ∧ i.zero = some z ∧ i.size = sz ∧ i.bytes = bytes ∧ z.cells.size = sz
  pos : 0 < sz
  bpos : 0 < bytes
theorem ElemInfo.of {P : Program} {e sz bytes : Nat} {z : Value} (h : (P.info? e).map (fun i => (i.zero, i.size, i.bytes)) = some (some z, sz, bytes)) (hz : z.cells.size = sz) (h0 : Nat.blt 0 sz = true) (h1 : Nat.blt 0 bytes = true) : ElemInfo P e sz bytes := by
  obtain ⟨i, hi, hq⟩ := Option.map_eq_some_iff.1 h
  simp only [Prod.mk.injEq] at hq
  exact ⟨⟨i, z, hi, hq.1, hq.2.1, hq.2.2, hz⟩, blt_lt h0, blt_lt h1⟩

/-- 'append(v, x..)', flat data. -/
theorem appE {ρ : Operand → Value} {α : Type} {K : Kd α} {e T : TypeId} {bytes : Nat} {S : Nat → Prop} {lo' hi' : Nat} {s x : Operand} {v : Value} {xs ys : List α} {A : Option Addr} {m c : Nat} (hF : Flat K) (hT : P.underlying T = some (.slice e)) (hI : ElemInfo P e K.sz bytes)
    (hs : ρ s = v) (hx : ρ x = .slice A m c) (hO : Mine K e S 0 0 w v xs) (hS : Sl K lo' hi' w A m ys) (hmax : (xs.length + ys.length) * bytes ≤ 140737488355328) (hfr : ∀ k, w.heap.size ≤ k → S k) :
    DoesE P ⟨dst, .call ⟨.builtin .append, #[s, x], #[T, T]⟩, ty, pos, aft, g⟩ ρ w fun v' w' => Mine K e S 0 0 w' v' (xs ++ ys) ∧ Ext S w w' := by
  obtain ⟨⟨i, z, h1, h2, h3, h4, h5⟩, h6, h7⟩ := hI
  obtain ⟨b, ho, hb⟩ := hO
  obtain ⟨⟨cs, hr, hrow⟩, hbb⟩ := ho
  obtain ⟨ds, hr', hcells⟩ := hS.reps
  have hlen : xs.length + ys.length ≤ 140737488355328 := Nat.le_trans (Nat.le_mul_of_pos_right _ h7) hmax
  have hm : ys.length = m := hS.len
  have key : ∃ v1 w1, (Builtin.append_ #[T, T] ty #[v, .slice A m c]).run P w = .ok v1 w1 ∧ w1.ownsRow 0 e K.sz v1 (xs.length + m) (cs ++ ds) ∧ w.grownBy w1 v.ownBlock ∧ (v1.ownBlock = v.ownBlock ∨ v1.ownBlock = some w.heap.size) := by
    cases A with
    | none =>
      have hm0 : m = 0 := by
        rcases Nat.eq_zero_or_pos m with h | h
        · exact h
        · obtain ⟨ad, e', _⟩ := hS.at_ h
          cases e'
      subst hm0
      have hy : ys = [] := List.eq_nil_of_length_eq_zero hm
      subst hy
      have hds : ds = [] := hr'
      subst hds
      refine ⟨v, w, ?_, by simpa using hrow, World.grownBy.refl w _, .inl rfl⟩
      rcases hrow.2 with ⟨rfl, hn⟩ | ⟨g', cap, cur, rfl, _, _, hnc, _⟩
      · simp [Builtin.append_, run_underlying hT, sizeOf, typeInfo, h1, Builtin.lenOf, Builtin.firstCells]
      · simp [Builtin.append_, run_underlying hT, sizeOf, typeInfo, h1, Builtin.lenOf, Builtin.firstCells, hnc, storeCells]
    | some ad =>
      obtain ⟨v1, w1, q1, q2, q3, _, q5⟩ := run_append_own_at (P := P) (w := w) 0 T ty e i z K.sz bytes hT h1 h2 h3 h4 h5 h6 v xs.length cs hrow ad m c ds (by rw [hr'.length, hm]) (hcells ad rfl) hr'.one (by simp only [maxLen]; omega) (by rw [← hm]; exact hmax) (Nat.zero_le _)
      exact ⟨v1, w1, q1, q2, q3, q5⟩
  obtain ⟨v1, w1, hrun, hown, hg, hat⟩ := key
  have hext : Ext S w w1 := (Ext.of_grown hg).mono fun k _ hk => hb k (by rw [← hbb]; exact hk)
  refine (does_run (w' := w1) rfl (by simp only [execOp, resolve, invoke, builtin, List.map_toArray, List.map_cons, List.map_nil, hs, hx]; simp [hrun])).e ⟨⟨v1.ownBlock, ⟨⟨cs ++ ds, ?_, by rw [List.length_append, hm]; exact hown⟩, rfl⟩, ?_⟩, hext⟩
  · exact Reps.app (hr.flat hF) (hr'.flat hF)
  · intro k hk
    rcases hat with hat | hat
    · exact hb k (by rw [← hbb, ← hat]; exact hk)
    · rw [hat] at hk
      cases hk
      exact hfr _ (Nat.le_refl _)
end
end Go.Proofs.Ytgfficbkajcdpaa.X

namespace Go.Proofs.Ytgfficbkajcdpaa.X
open Go

def evg (g : Nat → Value) : Operand → Value
  | .tmp t => g t
  | .const v => v
  | .global n => .pointer (some ⟨n, 0, none⟩)
  | .func f => .func (.func f) #[] #[]
def upd (g : Nat → Value) : Option Tmp → Value → Nat → Value
  | some d, v => fun t => match Nat.beq d t with | true => v | false => g t
  | none, _ => g
theorem ev_evg (E : Env) : E.ev = evg E.at_ := by funext x; cases x <;> rfl
theorem put_upd (E : Env) (d : Option Tmp) (v : Value) : (E.put d v).at_ = upd E.at_ d v := by
  cases d with
  | none => rfl
  | some d => funext t; rfl
theorem beq_ne {d t : Nat} (h : d ≠ t) : Nat.beq d t = false := by
  cases hb : Nat.beq d t
  · rfl
  · exact absurd (Nat.eq_of_beq_eq_true hb) h
theorem upd_comm (g : Nat → Value) {x y : Option Tmp} (v u : Value) (h : ∀ d, x = some d → y ≠ some d) : upd (upd g x v) y u = upd (upd g y u) x v := by
  cases x with
  | none => rfl
  | some d =>
    cases y with
    | none => rfl
    | some e =>
      have hne : d ≠ e := fun he => h d rfl (he ▸ rfl)
      funext t
      show (match Nat.beq e t with | true => u | false => (match Nat.beq d t with | true => v | false => g t)) = (match Nat.beq d t with | true => v | false => (match Nat.beq e t with | true => u | false => g t))
      cases h1 : Nat.beq d t <;> cases h2 : Nat.beq e t <;> first | rfl | exact absurd ((Nat.eq_of_beq_eq_true h1).trans (Nat.eq_of_beq_eq_true h2).symm) hne
theorem evg_upd (g : Nat → Value) {d : Option Tmp} (v : Value) {x : Operand} (h : ∀ t, d = some t → x ≠ .tmp t) : evg (upd g d v) x = evg g x := by
  cases d with
  | none => rfl
  | some d =>
    cases x with
    | tmp t =>
      have : d ≠ t := fun e => h d rfl (e ▸ rfl)
      show (match Nat.beq d t with | true => v | false => g t) = g t
      rw [beq_ne this]
    | _ => rfl

def yieldG (g : Nat → Value) (ops : Array Oper) (j : Nat) : Option Bool :=
  match (ops[j]?).bind (·.dst) with
  | some d => match g d with | .bool b => some b | _ => none
  | none => none
def wantG (g : Nat → Value) (ops : Array Oper) (o : Oper) : Bool := Region.wanted o (yieldG g ops)

theorem Does.congr {P : Program} {o : Oper} {ρ ρ' : Operand → Value} {w : World} {v : Value} {w' : World} (h : ∀ x, x ∈ o.op.operands → ρ x = ρ' x) (hd : Does P o ρ w v w') : Does P o ρ' w v w' :=
  fun fr cs ops i rest k ht hm ho hw he => hd fr cs ops i rest k ht hm ho hw fun x hx => (he x hx).trans (h x hx).symm

theorem evg_apart {ops : Array Oper} {o : Oper} {g : Nat → Value} {d : Option Tmp} (v : Value) (h : ∀ t, d = some t → t ∉ o.looksAt ops) : ∀ x, x ∈ o.op.operands → evg (upd g d v) x = evg g x := by
  intro x hx
  refine evg_upd g v fun t ht e => h t ht ?_
  subst e
  unfold Oper.looksAt
  exact List.mem_append.2 (.inl (List.mem_filterMap.2 ⟨.tmp t, Array.mem_toList_iff.2 hx, rfl⟩))
theorem wantG_apart {ops : Array Oper} {o : Oper} {g : Nat → Value} {d : Option Tmp} (v : Value) (h : ∀ t, d = some t → t ∉ o.looksAt ops) : wantG (upd g d v) ops o = wantG g ops o := by
  unfold wantG Region.wanted
  cases hg : o.guard with
  | none => rfl
  | some jb =>
    obtain ⟨j, b⟩ := jb
    have : yieldG (upd g d v) ops j = yieldG g ops j := by
      unfold yieldG
      cases hd : (ops[j]?).bind (·.dst) with
      | none => rfl
      | some e =>
        have hne : ∀ t, d = some t → t ≠ e := fun t ht e' => h t ht (by
          subst e'
          unfold Oper.looksAt
          exact List.mem_append.2 (.inr (by simp [hg, hd])))
        have : upd g d v e = g e := by
          cases d with
          | none => rfl
          | some t => show (match Nat.beq t e with | true => v | false => g e) = g e; rw [beq_ne (hne t rfl)]
        simp only [this]
    simp only [this]

section
variable (P : Program) (f : FuncId) (N : Nat) (rd : Option Nat) (ops : Array Oper) (k : List Item) (D : List Deferred) (R : Out → World → Prop) (S : Nat → Prop) (m : Nat)

def Fin (g : Nat → Value) (w : World) : Prop := ∀ E : Env, E.at_ = g → Run P f N rd k E D w R

/-- From here on, in whatever order. m: the operations from m on wait for all before m. -/
def AnyR : Nat → Array Bool → (Nat → Value) → World → Prop
  | 0, listed, g, w => Region.ready .any ops listed = [] ∧ Fin P f N rd k D R g w
  | fuel + 1, listed, g, w => (Region.ready .any ops listed = [] → Fin P f N rd k D R g w) ∧ ∀ i ∈ Region.ready .any ops listed, ∃ o, ops[i]? = some o ∧
      if wantG g ops o = true then ∃ v w', Does P o (evg g) w v w' ∧ (i < m → Ext S w w') ∧ AnyR fuel (listed.setIfInBounds i true) (upd g o.dst v) w'
      else AnyR fuel (listed.setIfInBounds i true) (upd g o.dst undef) w

variable {P f N rd ops k D R S m}

theorem AnyR.sound (hN : ∀ (j : Nat) (o : Oper) (d : Tmp), ops[j]? = some o → o.dst = some d → d < N) : ∀ (fuel t : Nat) (listed : Array Bool) (g : Nat → Value) (w : World), AnyR P f N rd ops k D R S m fuel listed g w → ∀ E : Env, E.at_ = g →
    Run P f N rd (.inRegion ops (Region.linearise.go .any ops fuel t listed []) :: k) E D w R := by
  intro fuel
  induction fuel with
  | zero =>
    intro t listed g w h E hE
    simp only [Region.linearise.go, List.reverse_nil]
    exact .of_step (fun _ _ _ _ => step_lone_go (by simp [stepG, stepG.exec])) (h.2 E hE)
  | succ fuel ih =>
    intro t listed g w h E hE
    have hrd : ((List.range ops.size).filter fun i => !listed.getD i true && ((ops[i]?).map (·.after.all fun e => !Region.binds .any e || listed.getD e.on false)).getD false) = Region.ready .any ops listed := rfl
    simp only [Region.linearise.go]
    rw [hrd]
    split
    · rename_i i hi
      have him : i ∈ Region.ready .any ops listed := List.mem_of_getElem? hi
      rw [linearise_go_acc]
      show Run P f N rd (.inRegion ops (i :: Region.linearise.go .any ops fuel _ (listed.setIfInBounds i true) []) :: k) E D w R
      obtain ⟨o, ho, hst⟩ := h.2 i him
      have hyl : ∀ tmps, Rep N E tmps → Region.wanted o (yielded ops tmps) = wantG g ops o := fun tmps ht => by
        unfold wantG Region.wanted
        cases hg : o.guard with
        | none => rfl
        | some jb =>
          obtain ⟨j, b⟩ := jb
          have : yielded ops tmps j = yieldG g ops j := by
            unfold yielded yieldG
            cases hd : (ops[j]?).bind (·.dst) with
            | none => rfl
            | some d =>
              obtain ⟨oj, hoj, hdj⟩ := Option.bind_eq_some_iff.1 hd
              have hlt : d < tmps.size := by rw [ht.size]; exact hN j oj d hoj hdj
              have h1 : tmps[d]? = some (g d) := by
                rw [Array.getElem?_eq_getElem hlt, ← hE, ← ht.at_ d]
                simp [Array.getD, hlt]
              simp only [Option.bind_some, h1]
              cases g d <;> rfl
          simp only [this]
      split at hst
      · rename_i hw
        obtain ⟨v, w', hdo, _, hrest⟩ := hst
        obtain ⟨z, w2, r, s⟩ := ih (t / (Region.ready .any ops listed).length) _ _ _ hrest (E.put o.dst v) (by rw [put_upd, hE])
        refine ⟨z, w2, r, fun kind cs tmps hc ht => ?_⟩
        have h1 := hdo (Fm f rd kind tmps (.inRegion ops (i :: Region.linearise.go .any ops fuel (t / (Region.ready .any ops listed).length) (listed.setIfInBounds i true) []) :: k) D .run) cs ops i _ k rfl rfl ho (by rw [hyl tmps ht]; exact hw) (fun x _ => by rw [frame_eval, ht.eval, ev_evg, hE])
        rw [finish_region f rd kind tmps ops i _ k D o ho] at h1
        obtain ⟨m', h2, h3⟩ := s kind cs _ hc (ht.put' o.dst v (fun d hd => hN i o d ho hd))
        exact ⟨m', h1.trans h2, h3⟩
      · rename_i hw
        obtain ⟨z, w2, r, s⟩ := ih (t / (Region.ready .any ops listed).length) _ _ _ hst (E.put o.dst undef) (by rw [put_upd, hE])
        refine ⟨z, w2, r, fun kind cs tmps hc ht => ?_⟩
        obtain ⟨m', h2, h3⟩ := s kind cs _ hc (ht.put' o.dst undef (fun d hd => hN i o d ho hd))
        refine ⟨m', .head (step_lone_go ?_) h2, h3⟩
        rw [← finish_region f rd kind tmps ops i _ k D o ho]
        have hwt : Region.wanted o (yielded ops tmps) = false := by rw [hyl tmps ht]; simpa using hw
        simp [stepG, stepG.exec, ho, hwt]
    · rename_i hnone
      simp only [List.reverse_nil]
      have hemp : Region.ready .any ops listed = [] := by
        cases hr : Region.ready .any ops listed with
        | nil => rfl
        | cons a as =>
          rw [hr] at hnone
          rw [List.getElem?_eq_getElem (Nat.mod_lt _ (by simp))] at hnone
          cases hnone
      exact .of_step (fun _ _ _ _ => step_lone_go (by simp [stepG, stepG.exec])) (h.1 hemp E hE)

theorem set_set_comm (a : Array Bool) (i j : Nat) : (a.setIfInBounds i true).setIfInBounds j true = (a.setIfInBounds j true).setIfInBounds i true := by
  by_cases h : i = j
  · subst h; rfl
  · exact Array.setIfInBounds_comm _ _ h

theorem AnyR.take {i : Nat} {oi : Oper} {v : Value} (hi : ops[i]? = some oi) (htail : ∀ (j : Nat) (oj : Oper), ops[j]? = some oj → m ≤ j → ∃ e, e ∈ oj.after ∧ Region.binds .any e = true ∧ e.on = i) :
    ∀ (fuel : Nat) (listed : Array Bool) (g : Nat → Value) (w : World),
      (∀ (j : Nat) (oj : Oper), ops[j]? = some oj → j ≠ i → listed.getD j true = false → (∀ e ∈ oj.after, Region.binds .any e = true → e.on ≠ i) → oi.apart ops oj = true) →
      i ∈ Region.ready .any ops listed → wantG g ops oi = true → (∀ w', Ext S w w' → Does P oi (evg g) w' v w') →
      AnyR P f N rd ops k D R S m fuel (listed.setIfInBounds i true) (upd g oi.dst v) w → AnyR P f N rd ops k D R S m (fuel + 1) listed g w := by
  intro fuel
  induction fuel with
  | zero =>
    intro listed g w hfree hr hw hst H
    refine ⟨fun he => absurd hr (by rw [he]; simp), fun j hj => ?_⟩
    by_cases hji : j = i
    · subst hji
      exact ⟨oi, hi, by rw [if_pos hw]; exact ⟨v, w, hst w (Ext.refl S w), fun _ => Ext.refl S w, H⟩⟩
    · have := ready_mono hj hji
      rw [H.1] at this
      cases this
  | succ fuel ih =>
    intro listed g w hfree hr hw hst H
    refine ⟨fun he => absurd hr (by rw [he]; simp), fun j hj => ?_⟩
    by_cases hji : j = i
    · subst hji
      exact ⟨oi, hi, by rw [if_pos hw]; exact ⟨v, w, hst w (Ext.refl S w), fun _ => Ext.refl S w, H⟩⟩
    · obtain ⟨oj, hoj, hstep⟩ := H.2 j (ready_mono hj hji)
      obtain ⟨hlj, o2, ho2, hall⟩ := mem_ready.1 hj
      obtain ⟨hli, _⟩ := mem_ready.1 hr
      have e2 : o2 = oj := Option.some.inj (ho2.symm.trans hoj)
      subst e2
      have hli' : listed.getD i false = false := by
        cases hq : listed.getD i false with
        | false => rfl
        | true =>
          have hlt : i < listed.size := by
            rcases Nat.lt_or_ge i listed.size with h' | h'
            · exact h'
            · simp [Array.getElem?_eq_none h'] at hq
          simp [hlt] at hq hli
          rw [hq] at hli
          cases hli
      have hno : ∀ e ∈ o2.after, Region.binds .any e = true → e.on ≠ i := fun e he hb hon => by
        have := hall e he hb
        rw [hon, hli'] at this
        cases this
      have hjm : j < m := by
        rcases Nat.lt_or_ge j m with h | h
        · exact h
        · obtain ⟨e, he, hb, hon⟩ := htail j o2 hoj h
          exact absurd hon (hno e he hb)
      obtain ⟨ap1, ap2, ap3⟩ := Oper.apart_spec (hfree j o2 hoj hji hlj hno)
      have hwj : wantG (upd g oi.dst v) ops o2 = wantG g ops o2 := wantG_apart v ap1
      have hevj : ∀ x, x ∈ o2.op.operands → evg (upd g oi.dst v) x = evg g x := evg_apart v ap1
      have hfree' : ∀ q oq, ops[q]? = some oq → q ≠ i → (listed.setIfInBounds j true).getD q true = false → (∀ e ∈ oq.after, Region.binds .any e = true → e.on ≠ i) → oi.apart ops oq = true := fun q oq hq hqi hl hn => by
        refine hfree q oq hq hqi ?_ hn
        by_cases hqj : j = q
        · subst hqj; exact hlj
        · rwa [getD_set_ne true hqj] at hl
      refine ⟨o2, hoj, ?_⟩
      rw [hwj] at hstep
      split
      · rename_i hwt
        rw [if_pos hwt] at hstep
        obtain ⟨vj, wj, hdo, hkp, hrest⟩ := hstep
        refine ⟨vj, wj, hdo.congr hevj, hkp, ih _ _ _ hfree' (ready_mono hr (Ne.symm hji)) ?_ ?_ ?_⟩
        · rw [wantG_apart vj ap3]; exact hw
        · intro w' hk'
          exact (hst w' (Ext.trans (hkp hjm) hk' (fun _ _ x => x) (fun _ _ x => x))).congr fun x hx => (evg_apart vj ap3 x hx).symm
        · rw [set_set_comm, ← upd_comm g v vj ap2]; exact hrest
      · rename_i hwt
        rw [if_neg hwt] at hstep
        refine ih _ _ _ hfree' (ready_mono hr (Ne.symm hji)) ?_ ?_ ?_
        · rw [wantG_apart undef ap3]; exact hw
        · intro w' hk'
          exact (hst w' hk').congr fun x hx => (evg_apart undef ap3 x hx).symm
        · rw [set_set_comm, ← upd_comm g v undef ap2]; exact hstep

theorem AnyR.takeS {i : Nat} {oi : Oper} (hi : ops[i]? = some oi) (htail : ∀ (j : Nat) (oj : Oper), ops[j]? = some oj → m ≤ j → ∃ e, e ∈ oj.after ∧ Region.binds .any e = true ∧ e.on = i) :
    ∀ (fuel : Nat) (listed : Array Bool) (g : Nat → Value) (w : World),
      (∀ (j : Nat) (oj : Oper), ops[j]? = some oj → j ≠ i → listed.getD j true = false → (∀ e ∈ oj.after, Region.binds .any e = true → e.on ≠ i) → oi.apart ops oj = true) →
      i ∈ Region.ready .any ops listed → ¬ wantG g ops oi = true →
      AnyR P f N rd ops k D R S m fuel (listed.setIfInBounds i true) (upd g oi.dst undef) w → AnyR P f N rd ops k D R S m (fuel + 1) listed g w := by
  intro fuel
  induction fuel with
  | zero =>
    intro listed g w hfree hr hw H
    refine ⟨fun he => absurd hr (by rw [he]; simp), fun j hj => ?_⟩
    by_cases hji : j = i
    · subst hji
      exact ⟨oi, hi, by rw [if_neg hw]; exact H⟩
    · have := ready_mono hj hji
      rw [H.1] at this
      cases this
  | succ fuel ih =>
    intro listed g w hfree hr hw H
    refine ⟨fun he => absurd hr (by rw [he]; simp), fun j hj => ?_⟩
    by_cases hji : j = i
    · subst hji
      exact ⟨oi, hi, by rw [if_neg hw]; exact H⟩
    · obtain ⟨oj, hoj, hstep⟩ := H.2 j (ready_mono hj hji)
      obtain ⟨hlj, o2, ho2, hall⟩ := mem_ready.1 hj
      obtain ⟨hli, _⟩ := mem_ready.1 hr
      have e2 : o2 = oj := Option.some.inj (ho2.symm.trans hoj)
      subst e2
      have hli' : listed.getD i false = false := by
        cases hq : listed.getD i false with
        | false => rfl
        | true =>
          have hlt : i < listed.size := by
            rcases Nat.lt_or_ge i listed.size with h' | h'
            · exact h'
            · simp [Array.getElem?_eq_none h'] at hq
          simp [hlt] at hq hli
          rw [hq] at hli
          cases hli
      have hno : ∀ e ∈ o2.after, Region.binds .any e = true → e.on ≠ i := fun e he hb hon => by
        have := hall e he hb
        rw [hon, hli'] at this
        cases this
      have hjm : j < m := by
        rcases Nat.lt_or_ge j m with h | h
        · exact h
        · obtain ⟨e, he, hb, hon⟩ := htail j o2 hoj h
          exact absurd hon (hno e he hb)
      obtain ⟨ap1, ap2, ap3⟩ := Oper.apart_spec (hfree j o2 hoj hji hlj hno)
      have hwj : wantG (upd g oi.dst undef) ops o2 = wantG g ops o2 := wantG_apart undef ap1
      have hevj : ∀ x, x ∈ o2.op.operands → evg (upd g oi.dst undef) x = evg g x := evg_apart undef ap1
      have hfree' : ∀ q oq, ops[q]? = some oq → q ≠ i → (listed.setIfInBounds j true).getD q true = false → (∀ e ∈ oq.after, Region.binds .any e = true → e.on ≠ i) → oi.apart ops oq = true := fun q oq hq hqi hl hn => by
        refine hfree q oq hq hqi ?_ hn
        by_cases hqj : j = q
        · subst hqj; exact hlj
        · rwa [getD_set_ne true hqj] at hl
      refine ⟨o2, hoj, ?_⟩
      rw [hwj] at hstep
      split
      · rename_i hwt
        rw [if_pos hwt] at hstep
        obtain ⟨vj, wj, hdo, hkp, hrest⟩ := hstep
        refine ⟨vj, wj, hdo.congr hevj, hkp, ih _ _ _ hfree' (ready_mono hr (Ne.symm hji)) ?_ ?_⟩
        · rw [wantG_apart vj ap3]; exact hw
        · rw [set_set_comm, ← upd_comm g undef vj ap2]; exact hrest
      · rename_i hwt
        rw [if_neg hwt] at hstep
        refine ih _ _ _ hfree' (ready_mono hr (Ne.symm hji)) ?_ ?_
        · rw [wantG_apart undef ap3]; exact hw
        · rw [set_set_comm, ← upd_comm g undef undef ap2]; exact hstep

/-- In slots: what is still to be done, in whatever order. -/
def Drw (P : Program) (f : FuncId) (N : Nat) (rd : Option Nat) (ops : Array Oper) (k : List Item) (D : List Deferred) (R : Out → World → Prop) (S : Nat → Prop) (m : Nat) (fuel : Nat) (listed : Array Bool) (E : Env) (w : World) : Prop :=
  AnyR P f N rd ops k D R S m fuel listed E.at_ w

def allDst (N : Nat) (ops : Array Oper) : Bool := ops.all fun o => dstOk N o.dst
/-- Each operation from m on waits for i. -/
def tailOk (ops : Array Oper) (m i : Nat) : Bool := (List.range ops.size).all fun j => Nat.blt j m || match ops[j]? with
  | some o => o.after.any fun e => Region.binds .any e && e.on == i
  | none => true

theorem regionD {id : Nat} {E : Env} {w : World} (S : Nat → Prop) (m : Nat) (hm : P.follows .mixedOrders = true) (hN : allDst N ops = true)
    (h : ∀ w', Keep w w' → w'.heap.size = w.heap.size → Drw P f N rd ops k D R S m ops.size (Array.replicate ops.size false) E w') : Run P f N rd (.code (.region id ops true) :: k) E D w R := by
  have hN' : ∀ (j : Nat) (o : Oper) (d : Tmp), ops[j]? = some o → o.dst = some d → d < N := fun j o d ho hd => by
    have := Array.all_eq_true_iff_forall_mem.1 hN o (Array.mem_of_getElem? ho)
    exact dstOk.lt this d hd
  have hs := AnyR.sound hN' ops.size (w.tape w.drawn (.order f id)) _ _ _ (h w.drew (Keep.drew w) rfl) E rfl
  obtain ⟨z, w2, r, s⟩ := hs
  refine ⟨z, w2, r, fun kind cs tmps hc ht => ?_⟩
  obtain ⟨m', h2, h3⟩ := s kind cs tmps hc ht
  refine ⟨m', .head (step_lone_go ?_) h2, h3⟩
  simp [stepG, stepG.exec, choose, Sem.run, Question.forced, Question.cut, hm, Region.schedule, Region.linearise]

theorem dEnd {E : Env} {w : World} {fuel : Nat} {listed : Array Bool} (hr : Region.ready .any ops listed = []) (h : Run P f N rd k E D w R) : Drw P f N rd ops k D R S m fuel listed E w := by
  have hf : Fin P f N rd k D R E.at_ w := fun E' hE => Run.env (fun t => congrFun hE t) h
  cases fuel with
  | zero => exact ⟨hr, hf⟩
  | succ n => exact ⟨fun _ => hf, fun i hi => by rw [hr] at hi; cases hi⟩

/-- The guard's yes, its no. -/
theorem dwN {E : Env} {o : Oper} (h : o.guard = none) : wantG E.at_ ops o = true := by simp [wantG, Region.wanted, h]
theorem dwG {E : Env} {o : Oper} {j d : Nat} {b : Bool} (hg : o.guard = some (j, b)) (hj : (ops[j]?).bind (·.dst) = some d) (hb : E.ev (.tmp d) = .bool b) : wantG E.at_ ops o = true := by
  have : E.at_ d = .bool b := hb
  simp [wantG, Region.wanted, hg, yieldG, hj, this]

/-- What only reads may be done first. -/
theorem dTake {E : Env} {w : World} {fuel : Nat} {listed : Array Bool} (i : Nat) {o : Oper} {v : Value} (ho : ops[i]? = some o) (ht : tailOk ops m i = true) (hf : Region.free .any ops listed i = true) (hr : (Region.ready .any ops listed).contains i = true)
    (hw : wantG E.at_ ops o = true) (hd : ∀ w', Ext S w w' → Does P o E.ev w' v w') (h : Drw P f N rd ops k D R S m fuel (listed.setIfInBounds i true) (E.put o.dst v) w) : Drw P f N rd ops k D R S m (fuel + 1) listed E w := by
  unfold Drw
  refine AnyR.take ho ?_ fuel listed E.at_ w (fun j oj hj hji hl hn => Region.free_spec ho hf j oj hj hji hl hn) (by simpa using hr) hw (fun w' hk => by rw [← ev_evg]; exact hd w' hk) (by rw [← put_upd]; exact h)
  intro j oj hj hm
  simp only [tailOk, List.all_eq_true, List.mem_range] at ht
  have := ht j (Array.getElem?_eq_some_iff.1 hj).1
  rw [hj] at this
  have hb : Nat.blt j m = false := by
    cases hq : Nat.blt j m
    · rfl
    · exact absurd (blt_lt hq) (by omega)
  rw [hb, Bool.false_or] at this
  obtain ⟨e, he, hq⟩ := Array.any_eq_true'.1 this
  simp only [Bool.and_eq_true, beq_iff_eq] at hq
  exact ⟨e, he, hq.1, hq.2⟩

theorem tailOk.all {i : Nat} (ht : tailOk ops m i = true) : ∀ (j : Nat) (oj : Oper), ops[j]? = some oj → m ≤ j → ∃ e, e ∈ oj.after ∧ Region.binds .any e = true ∧ e.on = i := by
  intro j oj hj hm
  simp only [tailOk, List.all_eq_true, List.mem_range] at ht
  have := ht j (Array.getElem?_eq_some_iff.1 hj).1
  rw [hj] at this
  have hb : Nat.blt j m = false := by
    cases hq : Nat.blt j m
    · rfl
    · exact absurd (blt_lt hq) (by omega)
  rw [hb, Bool.false_or] at this
  obtain ⟨e, he, hq⟩ := Array.any_eq_true'.1 this
  simp only [Bool.and_eq_true, beq_iff_eq] at hq
  exact ⟨e, he, hq.1, hq.2⟩
/-- What is passed over may be passed over first. -/
theorem dTakeS {E : Env} {w : World} {fuel : Nat} {listed : Array Bool} (i : Nat) {o : Oper} {j d : Nat} {b b' : Bool} (ho : ops[i]? = some o) (ht : tailOk ops m i = true) (hf : Region.free .any ops listed i = true) (hr : (Region.ready .any ops listed).contains i = true)
    (hg : o.guard = some (j, b)) (hj : (ops[j]?).bind (·.dst) = some d) (hb : E.ev (.tmp d) = .bool b') (hne : (b' != b) = true) (h : Drw P f N rd ops k D R S m fuel (listed.setIfInBounds i true) (E.put o.dst undef) w) : Drw P f N rd ops k D R S m (fuel + 1) listed E w := by
  have hw : ¬ wantG E.at_ ops o = true := by
    have : E.at_ d = .bool b' := hb
    simp only [wantG, Region.wanted, hg, yieldG, hj, this]
    cases b <;> cases b' <;> first | (simp at hne; done) | simp
  unfold Drw
  exact AnyR.takeS ho (tailOk.all ht) fuel listed E.at_ w (fun j oj hj hji hl hn => Region.free_spec ho hf j oj hj hji hl hn) (by simpa using hr) hw (by rw [← put_upd]; exact h)
theorem dTakeU {E : Env} {w : World} {fuel : Nat} {listed : Array Bool} (i : Nat) {o : Oper} {j d : Nat} {b : Bool} (ho : ops[i]? = some o) (ht : tailOk ops m i = true) (hf : Region.free .any ops listed i = true) (hr : (Region.ready .any ops listed).contains i = true)
    (hg : o.guard = some (j, b)) (hj : (ops[j]?).bind (·.dst) = some d) (hb : E.ev (.tmp d) = undef) (h : Drw P f N rd ops k D R S m fuel (listed.setIfInBounds i true) (E.put o.dst undef) w) : Drw P f N rd ops k D R S m (fuel + 1) listed E w := by
  have hw : ¬ wantG E.at_ ops o = true := by
    have : E.at_ d = undef := hb
    simp only [wantG, Region.wanted, hg, yieldG, hj, this]
    simp [undef]
  unfold Drw
  exact AnyR.takeS ho (tailOk.all ht) fuel listed E.at_ w (fun j oj hj hji hl hn => Region.free_spec ho hf j oj hj hji hl hn) (by simpa using hr) hw (by rw [← put_upd]; exact h)

/-- One operation alone is ready: it is done. -/
theorem dStep {E : Env} {w w' : World} {fuel : Nat} {listed : Array Bool} {i : Nat} {o : Oper} {v : Value} (hr : Region.ready .any ops listed = [i]) (ho : ops[i]? = some o) (hw : wantG E.at_ ops o = true) (hd : Does P o E.ev w v w') (hk : i < m → Ext S w w')
    (h : Drw P f N rd ops k D R S m fuel (listed.setIfInBounds i true) (E.put o.dst v) w') : Drw P f N rd ops k D R S m (fuel + 1) listed E w := by
  refine ⟨fun he => absurd (hr.symm.trans he) (by simp), fun j hj => ?_⟩
  rw [hr] at hj
  obtain rfl : j = i := by simpa using hj
  refine ⟨o, ho, ?_⟩
  rw [if_pos hw]
  exact ⟨v, w', by rw [← ev_evg]; exact hd, hk, by rw [← put_upd]; exact h⟩
/-- The same for what one knows by a fact alone. -/
theorem dE {E : Env} {w : World} {fuel : Nat} {listed : Array Bool} {i : Nat} {o : Oper} {Q : Value → World → Prop} (hr : Region.ready .any ops listed = [i]) (ho : ops[i]? = some o) (hw : wantG E.at_ ops o = true) (hd : DoesE P o E.ev w Q) (hk : ∀ v w', Q v w' → i < m → Ext S w w')
    (h : ∀ v w', Q v w' → Drw P f N rd ops k D R S m fuel (listed.setIfInBounds i true) (E.put o.dst v) w') : Drw P f N rd ops k D R S m (fuel + 1) listed E w := by
  obtain ⟨v, w', h1, h2⟩ := hd
  exact dStep hr ho hw h1 (hk v w' h2) (h v w' h2)
/-- A slot that holds a Bool: both ways, the slot written out. -/
theorem dFork {E : Env} {w : World} {fuel : Nat} {listed : Array Bool} (d : Nat) {b : Bool} (hb : E.ev (.tmp d) = .bool b) (h1 : b = true → Drw P f N rd ops k D R S m fuel listed (E.put (some d) (.bool true)) w) (h0 : b = false → Drw P f N rd ops k D R S m fuel listed (E.put (some d) (.bool false)) w) : Drw P f N rd ops k D R S m fuel listed E w := by
  have he : E.at_ = (E.put (some d) (.bool b)).at_ := by
    funext t
    show _ = lk E.b ((d, _) :: E.l) t
    rw [← hb]
    exact (lk_put E.b E.l d t).symm
  unfold Drw
  rw [he]
  cases b with
  | true => exact h1 rfl
  | false => exact h0 rfl
/-- A guard that says no, where one operation alone is ready. -/
theorem dSkip {E : Env} {w : World} {fuel : Nat} {listed : Array Bool} {i : Nat} {o : Oper} {j d : Nat} {b b' : Bool} (hr : Region.ready .any ops listed = [i]) (ho : ops[i]? = some o) (hg : o.guard = some (j, b)) (hj : (ops[j]?).bind (·.dst) = some d) (hb : E.ev (.tmp d) = .bool b') (hne : (b' != b) = true)
    (h : Drw P f N rd ops k D R S m fuel (listed.setIfInBounds i true) (E.put o.dst undef) w) : Drw P f N rd ops k D R S m (fuel + 1) listed E w := by
  refine ⟨fun he => absurd (hr.symm.trans he) (by simp), fun q hq => ?_⟩
  rw [hr] at hq
  obtain rfl : q = i := by simpa using hq
  refine ⟨o, ho, ?_⟩
  have : E.at_ d = .bool b' := hb
  rw [if_neg]
  · unfold Drw at h
    rw [put_upd] at h
    exact h
  · simp only [wantG, Region.wanted, hg, yieldG, hj, this]
    cases b <;> cases b' <;> first | (simp at hne; done) | simp
/-- Operation i is done now. -/
def Drw1 (P : Program) (f : FuncId) (N : Nat) (rd : Option Nat) (ops : Array Oper) (k : List Item) (D : List Deferred) (R : Out → World → Prop) (S : Nat → Prop) (m : Nat) (i fuel : Nat) (listed : Array Bool) (E : Env) (w : World) : Prop :=
  ∃ o, ops[i]? = some o ∧ if wantG E.at_ ops o = true then ∃ v w', Does P o (evg E.at_) w v w' ∧ (i < m → Ext S w w') ∧ AnyR P f N rd ops k D R S m fuel (listed.setIfInBounds i true) (upd E.at_ o.dst v) w'
    else AnyR P f N rd ops k D R S m fuel (listed.setIfInBounds i true) (upd E.at_ o.dst undef) w
/-- Two are ready, three. -/
theorem dTwo {E : Env} {w : World} {fuel : Nat} {listed : Array Bool} {i j : Nat} (hr : Region.ready .any ops listed = [i, j]) (h1 : Drw1 P f N rd ops k D R S m i fuel listed E w) (h2 : Drw1 P f N rd ops k D R S m j fuel listed E w) : Drw P f N rd ops k D R S m (fuel + 1) listed E w := by
  refine ⟨fun he => absurd (hr.symm.trans he) (by simp), fun q hq => ?_⟩
  rw [hr] at hq
  simp only [List.mem_cons, List.not_mem_nil, or_false] at hq
  rcases hq with rfl | rfl
  · exact h1
  · exact h2
theorem dThree {E : Env} {w : World} {fuel : Nat} {listed : Array Bool} {i j l : Nat} (hr : Region.ready .any ops listed = [i, j, l]) (h1 : Drw1 P f N rd ops k D R S m i fuel listed E w) (h2 : Drw1 P f N rd ops k D R S m j fuel listed E w) (h3 : Drw1 P f N rd ops k D R S m l fuel listed E w) : Drw P f N rd ops k D R S m (fuel + 1) listed E w := by
  refine ⟨fun he => absurd (hr.symm.trans he) (by simp), fun q hq => ?_⟩
  rw [hr] at hq
  simp only [List.mem_cons, List.not_mem_nil, or_false] at hq
  rcases hq with rfl | rfl | rfl
  · exact h1
  · exact h2
  · exact h3
theorem d1Step {E : Env} {w w' : World} {fuel : Nat} {listed : Array Bool} {i : Nat} {o : Oper} {v : Value} (ho : ops[i]? = some o) (hw : wantG E.at_ ops o = true) (hd : Does P o E.ev w v w') (hk : i < m → Ext S w w')
    (h : Drw P f N rd ops k D R S m fuel (listed.setIfInBounds i true) (E.put o.dst v) w') : Drw1 P f N rd ops k D R S m i fuel listed E w := by
  refine ⟨o, ho, ?_⟩
  rw [if_pos hw]
  exact ⟨v, w', by rw [← ev_evg]; exact hd, hk, by rw [← put_upd]; exact h⟩
theorem d1E {E : Env} {w : World} {fuel : Nat} {listed : Array Bool} {i : Nat} {o : Oper} {Q : Value → World → Prop} (ho : ops[i]? = some o) (hw : wantG E.at_ ops o = true) (hd : DoesE P o E.ev w Q) (hk : ∀ v w', Q v w' → i < m → Ext S w w')
    (h : ∀ v w', Q v w' → Drw P f N rd ops k D R S m fuel (listed.setIfInBounds i true) (E.put o.dst v) w') : Drw1 P f N rd ops k D R S m i fuel listed E w := by
  obtain ⟨v, w', h1, h2⟩ := hd
  exact d1Step ho hw h1 (hk v w' h2) (h v w' h2)
theorem d1Skip {E : Env} {w : World} {fuel : Nat} {listed : Array Bool} {i : Nat} {o : Oper} {j d : Nat} {b b' : Bool} (ho : ops[i]? = some o) (hg : o.guard = some (j, b)) (hj : (ops[j]?).bind (·.dst) = some d) (hb : E.ev (.tmp d) = .bool b') (hne : (b' != b) = true)
    (h : Drw P f N rd ops k D R S m fuel (listed.setIfInBounds i true) (E.put o.dst undef) w) : Drw1 P f N rd ops k D R S m i fuel listed E w := by
  refine ⟨o, ho, ?_⟩
  have : E.at_ d = .bool b' := hb
  rw [if_neg]
  · unfold Drw at h
    rw [put_upd] at h
    exact h
  · simp only [wantG, Region.wanted, hg, yieldG, hj, this]
    cases b <;> cases b' <;> first | (simp at hne; done) | simp
end
end Go.Proofs.Ytgfficbkajcdpaa.X

namespace Go.Proofs.Ytgfficbkajcdpaa.X
open Go

theorem str_eq (a b : ByteArray) : (a.toList == b.toList) = decide (a = b) := by
  by_cases h : a = b
  · subst h; simp
  · rw [ByteArray.toList_eq, ByteArray.toList_eq]
    have h2 : decide (a = b) = false := decide_eq_false h
    rw [h2]
    exact beq_eq_false_iff_ne.2 fun e => h (Go.WideShapes.bytes_inj e)

section
variable {P : Program} {ρ : Operand → Value} {w : World} {dst : Option Tmp} {ty : TypeId} {pos : String} {aft : Array Edge} {g : Option (Nat × Bool)}
theorem eqD {T T' : TypeId} {x y : Operand} {a b : ByteArray} (hx : ρ x = .string a) (hy : ρ y = .string b) : Does P ⟨dst, .binOp .eql T x y T', ty, pos, aft, g⟩ ρ w (.bool (decide (a = b))) w := by
  rw [← str_eq]; exact eqS hx hy
theorem neD {T T' : TypeId} {x y : Operand} {a b : ByteArray} (hx : ρ x = .string a) (hy : ρ y = .string b) : Does P ⟨dst, .binOp .neq T x y T', ty, pos, aft, g⟩ ρ w (.bool (decide (a ≠ b))) w := by
  have : decide (a ≠ b) = !decide (a = b) := by by_cases h : a = b <;> simp [h]
  rw [this, ← str_eq]; exact neS hx hy
theorem ltD {T T' : TypeId} {x y : Operand} {a b : ByteArray} (hx : ρ x = .string a) (hy : ρ y = .string b) : Does P ⟨dst, .binOp .lss T x y T', ty, pos, aft, g⟩ ρ w (.bool (Op.bytesLess a.data.toList b.data.toList)) w := by
  rw [← ByteArray.toList_eq, ← ByteArray.toList_eq]; exact ltS hx hy
theorem catS {T T' : TypeId} {x y : Operand} {a b : ByteArray} (hx : ρ x = .string a) (hy : ρ y = .string b) (h : a.size + b.size ≤ 9223372036854775807) : Does P ⟨dst, .binOp .add T x y T', ty, pos, aft, g⟩ ρ w (.string (a ++ b)) w :=
  does_run rfl (by
    have hm : IntKind.i64.max = 9223372036854775807 := rfl
    have : ¬ (((a.size + b.size : Nat) : Int) > IntKind.i64.max) := by omega
    simp only [execOp, hx, hy, binOp, eqGuard, Op.stringOp]
    rw [if_neg this]
    simp)
/-- 's[:m]'. -/
theorem cutSH {T : TypeId} {x h : Operand} {s : ByteArray} {kh : IntKind} {m : Int} (hT : P.underlying T = some .string) (hx : ρ x = .string s) (hh : ρ h = .int kh m) (h0 : 0 ≤ m ∧ m ≤ (s.size : Int)) :
    Does P ⟨dst, .slice T x none (some h) none, ty, pos, aft, g⟩ ρ w (.string (s.extract 0 m.toNat)) w :=
  does_run rfl (by
    simp [execOp, hx, hh, run_sliceAt_string _ _ _ _ _ _ hT, Instr.slice, run_underlying hT, Instr.sliceBounds, Instr.sliceBound, asIntOf, h0.1, h0.2])
/-- '==' of structs, by its fields' own answer. -/
theorem eqA {T T' : TypeId} {x y : Operand} {xs ys : Array Value} {b : Bool} (hg : P.eqGuardType P.depth T = false) (hx : ρ x = .agg xs) (hy : ρ y = .agg ys) (he : (Op.equalIn 10000 T (.agg xs) (.agg ys)).run P w = .ok b w) : Does P ⟨dst, .binOp .eql T x y T', ty, pos, aft, g⟩ ρ w (.bool b) w :=
  does_run rfl (by simp [execOp, hx, hy, run_eqGuard_agg w .eql T x y xs ys hg, run_eql_struct, he, Result.andThen])
theorem neA {T T' : TypeId} {x y : Operand} {xs ys : Array Value} {b : Bool} (hg : P.eqGuardType P.depth T = false) (hx : ρ x = .agg xs) (hy : ρ y = .agg ys) (he : (Op.equalIn 10000 T (.agg xs) (.agg ys)).run P w = .ok b w) : Does P ⟨dst, .binOp .neq T x y T', ty, pos, aft, g⟩ ρ w (.bool (!b)) w :=
  does_run rfl (by simp [execOp, hx, hy, run_eqGuard_agg w .neq T x y xs ys hg, run_neq_struct, he, Result.andThen])
/-- A struct literal, by what its operation comes to. -/
theorem build {T : TypeId} {ps : Array (Nat × Operand)} {v : Value} (h : ∀ w, (Instr.build T (ps.map fun (i, x) => (i, ρ x))).run P w = .ok v w) : Does P ⟨dst, .build T ps, ty, pos, aft, g⟩ ρ w v w :=
  does_run rfl (by simp only [execOp]; simp [h])
/-- A slice literal of whatever elements, by what its parts fill. -/
theorem litNE {α : Type} {K : Kd α} {lo hi : Nat} {T e : TypeId} {n : Nat} {z : Value} {ps : Array (Nat × Operand)} {cs : List Value} {ys : List α} (hT : P.underlying T = some (.slice e)) (hs : ∀ w, (sizeOf e).run P w = .ok K.sz w) (hz : ∀ w, (zeroValue e).run P w = .ok z w) (h24 : n * K.sz ≤ 16777216) (h0 : 0 < n * K.sz)
    (hfill : Instr.fill (fun i => some (i * K.sz, K.sz)) ((Array.range (n * K.sz)).map (z.cells[· % z.cells.size]!)) (ps.map fun (i, x) => (i, ρ x)).toList = some cs.toArray) (hr : Reps K lo hi w ys cs) (hn : ys.length = n) :
    DoesE P ⟨dst, .buildSlice T n ps, ty, pos, aft, g⟩ ρ w fun v' w' => v' = .slice (some ⟨w.heap.size, 0, none⟩) n n ∧ Sl K (min lo w.heap.size) (max hi (w.heap.size + 1)) w' (some ⟨w.heap.size, 0, none⟩) n ys ∧ Blk w' w.heap.size cs e ∧ Keep w w' ∧ w'.heap.size = w.heap.size + 1 := by
  have hB := Blk.new w cs e
  have hk := Keep.alloc w (.cells cs.toArray e)
  have hrun : (Instr.buildSlice T n (ps.map fun (i, x) => (i, ρ x))).run P w = .ok (.slice (some ⟨w.heap.size, 0, none⟩) n n) (w.alloc (.cells cs.toArray e)) := by
    have h1 : ¬ (n * K.sz > 2 ^ 24) := by omega
    have h2 : ¬ (n * K.sz = 0) := by omega
    simp only [Instr.buildSlice, Sem.run_bind, run_underlying hT, Result.andThen_ok, hs, if_neg h1, if_neg h2, hz, Sem.run_pure, hfill]
    simp [newRow]
  refine (does_run (w' := w.alloc (.cells cs.toArray e)) rfl ?_).e ⟨rfl, ?_, hB, hk, by simp⟩
  · simp only [execOp]
    simp only [Sem.run_bind, hrun, Result.andThen_ok, Sem.run_pure]
  · refine ⟨hn, by have hk1 : 1 ≤ K.sz := Nat.pos_of_ne_zero (fun e => by rw [e] at h0; omega); have := Nat.le_mul_of_pos_right n hk1; omega, fun _ => ⟨_, rfl, by simp only []; omega, by simp only []; omega, fun j x hx => ?_⟩⟩
    obtain ⟨a, ha, hq⟩ := hr.get j x hx
    refine ⟨a, K.wide (K.move ha (hk.stand fun _ _ _ => id)) (by omega) (by omega), fun i u hu => ?_⟩
    rw [add_mk, hB.cell, Nat.zero_add]
    exact hq i u hu
end

section
variable {P : Program} {f : FuncId} {N : Nat} {rd : Option Nat} {k : List Item} {E : Env} {D : List Deferred} {w : World} {R : Out → World → Prop} {ops : Array Oper} {S : Nat → Prop} {m : Nat}
/-- The guard itself was passed over: so is this. -/
theorem opU {l : List Oper} {o : Oper} {j d : Nat} {b : Bool} (hg : o.guard = some (j, b)) (hj : (ops[j]?).bind (·.dst) = some d) (hb : E.ev (.tmp d) = undef) (hd : dstOk N o.dst = true)
    (h : Ops P f N rd ops l k (E.put o.dst undef) D w R) : Ops P f N rd ops (o :: l) k E D w R := by
  intro idx hi
  cases idx with
  | nil => simp at hi
  | cons i rest =>
    simp only [List.map_cons, List.cons.injEq] at hi
    obtain ⟨z, w2, r, s⟩ := h rest hi.2
    refine ⟨z, w2, r, fun kind cs tmps hc ht => ?_⟩
    have hw : Region.wanted o (yielded ops tmps) = false := by
      have h1 : tmps.getD d undef = undef := (ht.at_ d).trans hb
      simp only [Region.wanted, hg, yielded, hj, Option.bind_some]
      by_cases hlt : d < tmps.size
      · have h2 : tmps[d]? = some undef := by
          rw [Array.getElem?_eq_getElem hlt]
          simpa [Array.getD, hlt] using h1
        rw [h2]
        rfl
      · rw [Array.getElem?_eq_none (by omega)]
        rfl
    obtain ⟨m, h2, h3⟩ := s kind cs _ hc (ht.put' o.dst undef (dstOk.lt hd))
    refine ⟨m, .head (step_lone_go ?_) h2, h3⟩
    rw [← finish_region f rd kind tmps ops i rest k D o hi.1]
    simp [stepG, stepG.exec, hi.1, hw]
theorem dSkU {fuel : Nat} {listed : Array Bool} {i : Nat} {o : Oper} {j d : Nat} {b : Bool} (hr : Region.ready .any ops listed = [i]) (ho : ops[i]? = some o) (hg : o.guard = some (j, b)) (hj : (ops[j]?).bind (·.dst) = some d) (hb : E.ev (.tmp d) = undef)
    (h : Drw P f N rd ops k D R S m fuel (listed.setIfInBounds i true) (E.put o.dst undef) w) : Drw P f N rd ops k D R S m (fuel + 1) listed E w := by
  refine ⟨fun he => absurd (hr.symm.trans he) (by simp), fun q hq => ?_⟩
  rw [hr] at hq
  obtain rfl : q = i := by simpa using hq
  refine ⟨o, ho, ?_⟩
  have : E.at_ d = undef := hb
  rw [if_neg]
  · unfold Drw at h
    rw [put_upd] at h
    exact h
  · simp only [wantG, Region.wanted, hg, yieldG, hj, this]
    simp [undef]
end
end Go.Proofs.Ytgfficbkajcdpaa.X

namespace Go.Proofs.Ytgfficbkajcdpaa.X
open Go

section
variable {P : Program} {ρ : Operand → Value} {w : World} {dst : Option Tmp} {ty : TypeId} {pos : String} {aft : Array Edge} {g : Option (Nat × Bool)}
/-- A field of an element of a slice. -/
theorem loadSf {α : Type} {K : Kd α} {lo hi : Nat} {T : TypeId} {x : Operand} {A : Option Addr} {n j o : Nat} {xs : List α} {y : α} {v : Value} (hT : ∀ w, (isAgg T).run P w = .ok false w) (hS : Sl K lo hi w A n xs) (hy : xs[j]? = some y) (hx : ρ x = .pointer (some (((A.getD default).add (j * K.sz)).add o))) (hv : ∀ cs, K.R lo hi w y cs → cs[o]? = some v) :
    Does P ⟨dst, .load T x, ty, pos, aft, g⟩ ρ w v w := by
  obtain ⟨ad, cs, e, hr, hq⟩ := hS.get j y hy
  subst e
  exact load1 hT hx (by rw [add_add]; exact hq o v (hv cs hr))
/-- A place of a field, whatever the address. -/
theorem fldA {S : TypeId} {fields : Array Field} {fd : Field} {x : Operand} {ad : Addr} {i n : Nat} (hS : P.underlying S = some (.struct fields)) (hf : fields[i]? = some fd) (hx : ρ x = .pointer (some ad)) (hn : ∀ w, (sizeOf fd.type).run P w = .ok (n + 1) w) :
    Does P ⟨dst, .fieldAddr S x i, ty, pos, aft, g⟩ ρ w (.pointer (some (ad.add fd.offset))) w :=
  fldAddr (ad := ad) hS hf hx (fun w => by simp [fieldPlace, hn])
theorem str_at (s : ByteArray) (i : Nat) (h : i < s.size) : s.data.toList[i]? = some (s[i]'h) := by
  rw [List.getElem?_eq_getElem (by rw [Array.length_toList]; exact h)]
  rfl
/-- 's[i]', s a string. -/
theorem idxStr {T : TypeId} {x i : Operand} {ki : IntKind} {s : ByteArray} {j : Nat} {y : UInt8} (hT : P.underlying T = some .string) (hx : ρ x = .string s) (hi : ρ i = .int ki (j : Int)) (hy : s.data.toList[j]? = some y) :
    Does P ⟨dst, .index T x i, ty, pos, aft, g⟩ ρ w (.int .u8 (y.toNat : Int)) w := by
  have hj : j < s.size := by
    have := (List.getElem?_eq_some_iff.1 hy).1
    rw [Array.length_toList] at this
    exact this
  have e := str_at s j hj
  rw [hy] at e
  refine does_run rfl ?_
  simp only [execOp, hx, hi]
  rw [Option.some.injEq] at e
  subst e
  have := run_index_string (P := P) w T s ki (j : Int) hT
  rw [dif_pos ⟨by omega, by omega⟩] at this
  simp [this]
end

section
variable {α : Type} {K : Kd α} {e : TypeId} {S : Nat → Prop} {lo hi : Nat} {w : World} {xs : List α}
theorem Mine.lit {b n : Nat} {cs : List Value} (hB : Blk w b cs e) (hr : Reps K lo hi w xs cs) (hn : xs.length = n) (hm : n ≤ 1000000) (hS : S b) : Mine K e S lo hi w (.slice (some ⟨b, 0, none⟩) n n) xs := by
  subst hn
  have hl := hr.length
  refine ⟨some b, ⟨⟨cs, hr, hl, .inr ⟨b, xs.length, cs.toArray, rfl, Nat.zero_le _, hB, Nat.le_refl _, by simp only [maxLen]; omega, by simpa using hl, ?_⟩⟩, rfl⟩, fun k hk => by cases hk; exact hS⟩
  rw [← hl]
  simp
/-- '[]byte{y}'. -/
theorem Mine.litB {b : Nat} {y : UInt8} (hB : Blk w b [.int .u8 (y.toNat : Int)] e) (hS : S b) : Mine KB e S 0 0 w (.slice (some ⟨b, 0, none⟩) 1 1) [y] :=
  Mine.lit hB (Reps.single (KB_R 0 0 w y)) rfl (by omega) hS
end

section
variable {P : Program} {ρ : Operand → Value} {w : World} {dst : Option Tmp} {ty : TypeId} {pos : String} {aft : Array Edge} {g : Option (Nat × Bool)}
/-- '[]T{}'. -/
theorem lit0E {α : Type} {K : Kd α} {T e : TypeId} {S : Nat → Prop} (hT : P.underlying T = some (.slice e)) (hs : ∀ w, (sizeOf e).run P w = .ok K.sz w) (hS : S w.heap.size) :
    DoesE P ⟨dst, .buildSlice T 0 #[], ty, pos, aft, g⟩ ρ w fun v' w' => Mine K e S 0 0 w' v' [] ∧ Keep w w' ∧ w'.heap.size = w.heap.size + 1 := by
  have hrun : (Instr.buildSlice T 0 #[]).run P w = .ok (.slice (some ⟨w.heap.size, 0, none⟩) 0 0) (w.alloc (.cells #[] e)) := by
    have h0 : Array.range 0 = #[] := rfl
    simp [Instr.buildSlice, run_underlying hT, hs, newRow, h0, Instr.fill]
  refine (does_run (v := .slice (some ⟨w.heap.size, 0, none⟩) 0 0) (w' := w.alloc (.cells #[] e)) rfl (by simp [execOp, hrun])).e ⟨?_, Keep.alloc w _, by simp⟩
  exact Mine.lit (cs := []) (Blk.new w [] e) rfl rfl (by omega) hS
/-- '[]byte{y}'. -/
theorem lit1B {T e : TypeId} {x : Operand} {y : UInt8} (hT : P.underlying T = some (.slice e)) (hs : ∀ w, (sizeOf e).run P w = .ok 1 w) (hz : ∀ w, (zeroValue e).run P w = .ok (.int .u8 0) w) (hx : ρ x = .int .u8 (y.toNat : Int)) :
    DoesE P ⟨dst, .buildSlice T 1 #[(0, x)], ty, pos, aft, g⟩ ρ w fun v' w' => v' = .slice (some ⟨w.heap.size, 0, none⟩) 1 1 ∧ Sl KB 0 w'.heap.size w' (some ⟨w.heap.size, 0, none⟩) 1 [y] ∧ Blk w' w.heap.size [.int .u8 (y.toNat : Int)] e ∧ Keep w w' ∧ w'.heap.size = w.heap.size + 1 :=
  (lit1E (K := KB) (lo := 0) (hi := 0) hT hs hz rfl hx (KB_R 0 0 w y)).mono fun v' w' ⟨h1, h2, h3, h4, h5⟩ => ⟨h1, h2.wide (Nat.zero_le _) (by omega), h3, h4, h5⟩
/-- Of three bytes and more, two: '[]byte{x, y}'. -/
theorem lit2B {T e : TypeId} {a b : Nat × Operand} {x y : UInt8} (hT : P.underlying T = some (.slice e)) (hs : ∀ w, (sizeOf e).run P w = .ok 1 w) (hz : ∀ w, (zeroValue e).run P w = .ok (.int .u8 0) w) (ha : a.1 = 0 ∧ ρ a.2 = .int .u8 (x.toNat : Int)) (hb : b.1 = 1 ∧ ρ b.2 = .int .u8 (y.toNat : Int)) :
    DoesE P ⟨dst, .buildSlice T 2 #[a, b], ty, pos, aft, g⟩ ρ w fun v' w' => v' = .slice (some ⟨w.heap.size, 0, none⟩) 2 2 ∧ Sl KB 0 w'.heap.size w' (some ⟨w.heap.size, 0, none⟩) 2 [x, y] ∧ Blk w' w.heap.size [.int .u8 (x.toNat : Int), .int .u8 (y.toNat : Int)] e ∧ Keep w w' ∧ w'.heap.size = w.heap.size + 1 := by
  obtain ⟨i, a⟩ := a
  obtain ⟨j, b⟩ := b
  obtain ⟨rfl, ha⟩ := ha
  obtain ⟨rfl, hb⟩ := hb
  refine (litNE (n := 2) (K := KB) (lo := 0) (hi := 0) (cs := [.int .u8 (x.toNat : Int), .int .u8 (y.toNat : Int)]) (ys := [x, y]) hT hs hz (by decide) (by decide) ?_ ⟨_, _, rfl, KB_R 0 0 w x, Reps.single (KB_R 0 0 w y)⟩ rfl).mono fun v' w' ⟨h1, h2, h3, h4, h5⟩ => ⟨h1, h2.wide (Nat.zero_le _) (by omega), h3, h4, h5⟩
  have hr : Array.range (2 * KB.sz) = #[0, 1] := by decide
  rw [hr]
  simp only [List.map_toArray, List.map_cons, List.map_nil]
  simp [Instr.fill, Value.cells, KB, Kd.plain]
  rw [ha, hb]
  simp
end

/-- Values, each of whose cells tell an element. -/
def RepsV {α : Type} (K : Kd α) (w : World) : List α → List Value → Prop
  | [], [] => True
  | y :: ys, v :: vs => (∃ cs, v.cells = cs.toArray ∧ K.R 0 0 w y cs) ∧ RepsV K w ys vs
  | _, _ => False
theorem RepsV.reps {α : Type} {K : Kd α} {w : World} : ∀ {ys : List α} {vs : List Value}, RepsV K w ys vs → Reps K 0 0 w ys (vs.flatMap fun v => v.cells.toList) ∧ ys.length = vs.length ∧ ∀ v ∈ vs, v.cells.size = K.sz
  | [], [], _ => ⟨rfl, rfl, fun _ h => by cases h⟩
  | y :: ys, v :: vs, ⟨⟨cs, h1, h2⟩, h3⟩ => by
    obtain ⟨q1, q2, q3⟩ := RepsV.reps h3
    refine ⟨⟨cs, _, by rw [List.flatMap_cons, h1], h2, q1⟩, by simp [q2], fun u hu => ?_⟩
    rcases List.mem_cons.1 hu with rfl | hu
    · rw [h1, ← K.len h2]; simp
    · exact q3 u hu
  | [], _ :: _, h => h.elim
  | _ :: _, [], h => h.elim
section
variable {P : Program} {ρ : Operand → Value} {w : World} {dst : Option Tmp} {ty : TypeId} {pos : String} {aft : Array Edge} {g : Option (Nat × Bool)}
/-- '[]T{x, y, ..}', elements of whatever kind. -/
theorem litKE {α : Type} {K : Kd α} {T e : TypeId} {n : Nat} {z : Value} {ps : Array (Nat × Operand)} {xs : List Operand} {vs : List Value} {ys : List α} (hT : P.underlying T = some (.slice e)) (hs : ∀ w, (sizeOf e).run P w = .ok K.sz w) (hz : ∀ w, (zeroValue e).run P w = .ok z w)
    (h24 : Nat.ble (n * K.sz) 16777216 = true) (h0 : Nat.blt 0 (n * K.sz) = true) (hps : ps.toList = (xs.zipIdx 0).map fun x => (x.2, x.1)) (hn : xs.length = n) (hv : xs.map ρ = vs) (hr : RepsV K w ys vs) :
    DoesE P ⟨dst, .buildSlice T n ps, ty, pos, aft, g⟩ ρ w fun v' w' => v' = .slice (some ⟨w.heap.size, 0, none⟩) n n ∧ Sl K 0 w'.heap.size w' (some ⟨w.heap.size, 0, none⟩) n ys ∧ Blk w' w.heap.size (vs.flatMap fun v => v.cells.toList) e ∧ Keep w w' ∧ w'.heap.size = w.heap.size + 1 := by
  obtain ⟨q1, q2, q3⟩ := hr.reps
  have hvl : vs.length = n := by rw [← hv, List.length_map, hn]
  have h0' := blt_lt h0
  have hp : 0 < K.sz := Nat.pos_of_ne_zero fun e => by rw [e] at h0'; omega
  have e1 : (ps.map fun (i, x) => (i, ρ x)).toList = (vs.zipIdx 0).map fun x => (x.2, x.1) := by
    rw [Array.toList_map, hps, ← hv, List.zipIdx_map, List.map_map, List.map_map]
    rfl
  refine (litNE (K := K) (lo := 0) (hi := 0) (cs := vs.flatMap fun v => v.cells.toList) (ys := ys) hT hs hz (Nat.le_of_ble_eq_true h24) h0' ?_ q1 (by omega)).mono fun v' w' ⟨h1, h2, h3, h4, h5⟩ => ⟨h1, h2.wide (Nat.zero_le _) (by omega), h3, h4, h5⟩
  rw [e1]
  exact Great.fill_whole hp vs _ q3 (by simp [hvl])
/-- A struct literal, by the program's own table. -/
theorem buildB {T : TypeId} {ps : Array (Nat × Operand)} {vs : List (Nat × Value)} {cs : Array Value} (hv : (ps.toList.map fun x => (x.1, ρ x.2)) = vs) (h : P.built T vs = some cs) : Does P ⟨dst, .build T ps, ty, pos, aft, g⟩ ρ w (.agg cs) w :=
  build (fun w => by
    have e : (ps.map fun (i, x) => (i, ρ x)) = vs.toArray := by
      rw [← hv]
      apply Array.toList_inj.1
      rw [Array.toList_map]
    rw [e]
    exact run_build w T vs.toArray cs h)
end
section
variable {α : Type} {K : Kd α} {e : TypeId} {S : Nat → Prop} {w : World}
/-- A literal as a row of the call's own. -/
theorem Mine.litV {b n : Nat} {ys : List α} {vs : List Value} (hF : Flat K) {w0 : World} (hB : Blk w b (vs.flatMap fun v => v.cells.toList) e) (hr : RepsV K w0 ys vs) (hn : ys.length = n) (hm : n ≤ 1000000) (hS : S b) : Mine K e S 0 0 w (.slice (some ⟨b, 0, none⟩) n n) ys :=
  Mine.lit hB (hr.reps.1.flat hF) hn hm hS
end

section
variable {P : Program} {ρ : Operand → Value} {w : World} {dst : Option Tmp} {ty : TypeId} {pos : String} {aft : Array Edge} {g : Option (Nat × Bool)}
/-- 's == nil'. -/
theorem eqNil {T e T' : TypeId} {x y : Operand} {A : Option Addr} {n c : Nat} (hT : P.underlying T = some (.slice e)) (hx : ρ x = .slice A n c) (hy : ρ y = .slice none 0 0) : Does P ⟨dst, .binOp .eql T x y T', ty, pos, aft, g⟩ ρ w (.bool A.isNone) w :=
  does_run rfl (by
    have h1 := run_equal_slice_nil (P := P) w T e A n c hT
    simp only [execOp, hx, hy, binOp, eqGuard]
    simp [h1])
end
end Go.Proofs.Ytgfficbkajcdpaa.X

namespace Go.Proofs.Ytgfficbkajcdpaa.X
open Go

/-! ### 1. Results in cells -/
section
variable {P : Program} {f : FuncId} {N : Nat} {k : List Item} {E : Env} {D : List Deferred} {w : World} {R : Out → World → Prop}
theorem lv1 {T : TypeId} {b i : Nat} {cs : List Value} {e : TypeId} {v : Value} (hT : ∀ w, (isAgg T).run P w = .ok false w) (hB : Blk w b cs e) (hv : cs[i]? = some v) : (loadVar T ⟨b, i, none⟩).run P w = .ok v w := by
  have hc : w.cell? ⟨b, i, none⟩ = some v := by rw [hB.cell]; exact hv
  simp [loadVar, hT, hc]
theorem lvN {T : TypeId} {b n : Nat} {cs : List Value} {e : TypeId} (hT : ∀ w, (isAgg T).run P w = .ok true w) (hs : ∀ w, (sizeOf T).run P w = .ok n w) (hB : Blk w b cs e) (hl : cs.length = n) : (loadVar T ⟨b, 0, none⟩).run P w = .ok (.agg cs.toArray) w := by
  subst hl
  have := run_loadCells_list (P := P) w ⟨b, 0, none⟩ cs (fun j u hu => by rw [add_mk, hB.cell, Nat.zero_add]; exact hu)
  simp [loadVar, hT, hs, this]
/-- What a result's row reads. -/
def ResOk (P : Program) (E : Env) (w : World) : ResultVar → Value → Prop
  | .tmp t, v => E.at_ t = v
  | .cell a T, v => ∃ ad, E.at_ a = .pointer (some ad) ∧ (loadVar T ad).run P w = .ok v w
theorem ResOk.cell {a T : Nat} {b : Nat} {v : Value} (h : E.ev (.tmp a) = .pointer (some ⟨b, 0, none⟩)) (hl : (loadVar T ⟨b, 0, none⟩).run P w = .ok v w) : ResOk P E w (.cell a T) v := ⟨_, h, hl⟩
def resSem (tmps : Array Value) : ResultVar → Sem Value
  | .tmp t => pure (tmps.getD t undef)
  | .cell a T => do loadVar T (← asAddr (tmps.getD a undef))
theorem ResOk.run {tmps : Array Value} (ht : Rep N E tmps) {r : ResultVar} {v : Value} (h : ResOk P E w r v) : (resSem tmps r).run P w = .ok v w := by
  cases r with
  | tmp t =>
    have h : E.at_ t = v := h
    simp [resSem, ht.at_ t, h]
  | cell a T =>
    obtain ⟨ad, h1, h2⟩ := h
    have h3 := (ht.at_ a).trans h1
    simp [resSem, h3, asAddr, h2]
theorem results_sem (fn : Func) (tmps : Array Value) : results fn tmps = (do let vs ← fn.results.mapM (resSem tmps); pure (if h : vs.size = 1 then vs[0] else .tuple vs)) := by
  unfold results
  congr
theorem unwR1 {fn : Func} {r1 : ResultVar} {v1 : Value} (hf : P.funcs[f]? = some fn) (hr : fn.results = #[r1]) (h1 : ResOk P E w r1 v1) (h : R (.ret v1) w) : Unw P f N .returning E [] w R :=
  unw_ret hf (fun tmps ht => by
    rw [results_sem, hr]
    simp [h1.run ht]) h
theorem unwR3 {fn : Func} {r1 r2 r3 : ResultVar} {v1 v2 v3 : Value} (hf : P.funcs[f]? = some fn) (hr : fn.results = #[r1, r2, r3]) (h1 : ResOk P E w r1 v1) (h2 : ResOk P E w r2 v2) (h3 : ResOk P E w r3 v3) (h : R (.ret (.tuple #[v1, v2, v3])) w) : Unw P f N .returning E [] w R :=
  unw_ret hf (fun tmps ht => by
    rw [results_sem, hr]
    simp [h1.run ht, h2.run ht, h3.run ht]) h

/-! ### 2. A call that may panic -/
theorem Ext.andThen {T U : Nat → Prop} {a b c : World} (h : Ext T a b) (h' : Ext U b c) (hU : ∀ k, k < a.heap.size → U k → T k) : Ext T a c := Ext.trans h h' (fun _ _ x => x) hU
/-- The call hands a value back where 'ok' says so; else it panics with one panic, x. -/
def PRet {β : Type} (P : Program) (f : FuncId) (args : Array Value) (w : World) (x : Value) (ok : Option β) (Q : β → Value → World → Prop) (B : World → Prop) : Prop :=
  Call P f args w fun o w' => match ok with
    | some b => ∃ v, o = .ret v ∧ Q b v w'
    | none => o = .pan [{ v := x, recovered := false }] ∧ B w'
theorem PRet.of_ret {β : Type} {args : Array Value} {x : Value} {b : β} {Q : β → Value → World → Prop} {B : World → Prop} (h : Ret P f args w fun v w' => Q b v w') : PRet P f args w x (some b) Q B :=
  Call.mono h fun o w' => by cases o with
    | ret v => exact fun q => ⟨v, rfl, q⟩
    | pan _ => exact fun q => q.elim
end
section
variable {P : Program} {f : FuncId} {N : Nat} {k : List Item} {E : Env} {D : List Deferred} {w : World} {R : Out → World → Prop} {ops : Array Oper} {l : List Oper} {dst : Option Tmp} {ty : TypeId} {pos : String} {aft : Array Edge} {g : Option (Nat × Bool)}
/-- 'f(..)', f a function by its name, that may panic. -/
theorem opPR {β : Type} {G : FuncId} {xs : List Operand} {tys : Array TypeId} {vs : List Value} {x : Value} {ok : Option β} {Q : β → Value → World → Prop} {B : World → Prop} (hc : PRet P G vs.toArray w x ok Q B) (hw : Wanted N E ops g) (hd : dstOk N dst = true) (hG : ∀ args w, (callFunc G args).run P w = .ok (.enter G args) w) (hv : xs.map E.ev = vs)
    (h1 : ∀ b, ok = some b → ∀ v w', Q b v w' → Ops P f N none ops l k (E.put dst v) D w' R) (h0 : ok = none → ∀ w', B w' → Unw P f N (.panicking [{ v := x, recovered := false }]) E D w' R) :
    Ops P f N none ops (⟨dst, .call ⟨.value (.func G), xs.toArray, tys⟩, ty, pos, aft, g⟩ :: l) k E D w R := by
  refine opCallO (G := G) (args := vs.toArray) hc hw hd rfl ?_ ?_
  · simp [execOp, resolve, Env.ev, Deferred.ofValue, invoke, hG, ← hv]
  · intro z w' hz
    cases hok : ok with
    | none =>
      rw [hok] at hz
      obtain ⟨rfl, hb⟩ := hz
      exact h0 hok w' hb
    | some b =>
      rw [hok] at hz
      obtain ⟨v, rfl, hq⟩ := hz
      exact h1 b hok v w' hq
/-- 'x(..)', x a function value, that may panic. -/
theorem opPRV {β : Type} {G : FuncId} {x' : Operand} {cap : List Value} {xs : List Operand} {tys : Array TypeId} {vs : List Value} {x : Value} {ok : Option β} {Q : β → Value → World → Prop} {B : World → Prop} (hx : E.ev x' = .func (.func G) #[] cap.toArray) (hc : PRet P G (vs ++ cap).toArray w x ok Q B) (hw : Wanted N E ops g) (hd : dstOk N dst = true) (hG : ∀ args w, (callFunc G args).run P w = .ok (.enter G args) w) (hv : xs.map E.ev = vs)
    (h1 : ∀ b, ok = some b → ∀ v w', Q b v w' → Ops P f N none ops l k (E.put dst v) D w' R) (h0 : ok = none → ∀ w', B w' → Unw P f N (.panicking [{ v := x, recovered := false }]) E D w' R) :
    Ops P f N none ops (⟨dst, .call ⟨.value x', xs.toArray, tys⟩, ty, pos, aft, g⟩ :: l) k E D w R := by
  refine opCallO (G := G) (args := (vs ++ cap).toArray) hc hw hd rfl ?_ ?_
  · simp [execOp, resolve, hx, Deferred.ofValue, invoke, hG, ← hv]
  · intro z w' hz
    cases hok : ok with
    | none =>
      rw [hok] at hz
      obtain ⟨rfl, hb⟩ := hz
      exact h0 hok w' hb
    | some b =>
      rw [hok] at hz
      obtain ⟨v, rfl, hq⟩ := hz
      exact h1 b hok v w' hq

/-! ### 3. Deferred calls -/
/-- 'defer x(..)'. -/
theorem opDefer {x : Operand} {G : FuncId} {cap : Array Value} {xs : List Operand} {vs : List Value} {tys : Array TypeId} (hw : Wanted N E ops g) (hx : E.ev x = .func (.func G) #[] cap) (hv : xs.map E.ev = vs) (h : Ops P f N none ops l k E (⟨.fn (.func G) cap, vs.toArray⟩ :: D) w R) :
    Ops P f N none ops (⟨none, .defer ⟨.value x, xs.toArray, tys⟩, ty, pos, aft, g⟩ :: l) k E D w R := by
  intro idx hi
  cases idx with
  | nil => simp at hi
  | cons i rest =>
    simp only [List.map_cons, List.cons.injEq] at hi
    obtain ⟨o', w', r, s⟩ := h rest hi.2
    refine ⟨o', w', r, fun kind cs tmps hcs ht => ?_⟩
    obtain ⟨m, s2, hl⟩ := s kind cs tmps hcs ht
    refine ⟨m, .head (step_lone_go ?_) s2, hl⟩
    have hwt := hw tmps ht ⟨none, .defer ⟨.value x, xs.toArray, tys⟩, ty, pos, aft, g⟩ rfl
    have he : (Fm f none kind tmps (.inRegion ops (i :: rest) :: k) D .run).eval = E.ev := by rw [frame_eval, ht.eval]
    simp only [stepG, stepG.exec, hi.1, Option.map_some, Option.getD_some, hwt, if_true, stepG.oper, Frame.oper?]
    simp only [execOp, resolve, he, hx, List.map_toArray, hv]
    simp [stepG.apply, Deferred.ofValue, Frame.finish, hi.1]

/-- A DEFERRED CALL, made by a frame in this mode: what it leaves that mode as. -/
def DCall (P : Program) (f : FuncId) (args : Array Value) (w : World) (mode : FrameMode) (R : FrameMode → World → Prop) : Prop :=
  ∃ mode' w', R mode' w' ∧ ∀ (c : Frame) cs, c.mode = mode → ∃ fr v, Steps P (lone (Frame.enter P f args .deferred) (c :: cs) w) (lone fr ({ c with mode := mode' } :: cs) w') ∧ Left P f .deferred fr w' (.ret v)
theorem DCall.of_ret {args : Array Value} {R' : Value → World → Prop} {mode : FrameMode} (h : Ret P f args w R') : DCall P f args w mode fun m w' => m = mode ∧ ∃ v, R' v w' := by
  obtain ⟨v, w', hr, hs⟩ := h.call
  refine ⟨mode, w', ⟨rfl, v, hr⟩, fun c cs hc => ?_⟩
  obtain ⟨fr, s, hl⟩ := hs .deferred (c :: cs)
  subst hc
  exact ⟨fr, v, s, hl⟩
/-- What 'recover' tells in a deferred call, and what it leaves. -/
def recOf : FrameMode → Value × FrameMode
  | .panicking ({ v, recovered := false, goexit := false } :: older) => (v, .panicking ({ v, recovered := true } :: older))
  | m => (.nilIface, m)
theorem tryRec (fr c : Frame) (cs : List Frame) (h : fr.kind = .deferred) : (tryRecover fr (c :: cs)) = none ∧ recOf c.mode = (.nilIface, c.mode) ∨ ∃ v m, tryRecover fr (c :: cs) = some (v, { c with mode := m } :: cs) ∧ recOf c.mode = (v, m) := by
  obtain ⟨fn, tmps, todo, D, mode, kind, rd⟩ := c
  simp only [tryRecover, h]
  cases mode with
  | run => left; exact ⟨rfl, rfl⟩
  | returning => left; exact ⟨rfl, rfl⟩
  | panicking ch =>
    cases ch with
    | nil => left; exact ⟨rfl, rfl⟩
    | cons e older =>
      obtain ⟨v, r, ge⟩ := e
      cases r <;> cases ge
      · right; exact ⟨v, _, rfl, rfl⟩
      · left; exact ⟨rfl, rfl⟩
      · left; exact ⟨rfl, rfl⟩
      · left; exact ⟨rfl, rfl⟩
/-- A deferred function that begins with 'recover()'. -/
theorem DCall.rec {fn : Func} {c : Code} {N id : Nat} {d : Tmp} {args : List Value} {mode mode' : FrameMode} {v : Value} {R : FrameMode → World → Prop} (hf : P.funcs[f]? = some fn) (hb : fn.body = some (.seq (.region id #[⟨some d, .call ⟨.builtin .recover, #[], #[]⟩, ty, pos, aft, none⟩] false) c)) (hN : fn.ntmps = N) (hl : Nat.ble args.length N = true) (hd : Nat.blt d N = true)
    (hrec : recOf mode = (v, mode')) (h : Run P f N none [.code c] ((Env.enter args).put (some d) v) [] w fun z w' => match z with | .ret _ => R mode' w' | .pan _ => False) : DCall P f args.toArray w mode R := by
  obtain ⟨z, w', hr, hs⟩ := h
  cases z with
  | pan ch => exact hr.elim
  | ret u =>
    refine ⟨mode', w', hr, fun cl cs hcl => ?_⟩
    have hent : Frame.enter P f args.toArray .deferred = Fm f none .deferred (args.toArray ++ Array.replicate (N - args.toArray.size) undef) [.code (.seq (.region id #[⟨some d, .call ⟨.builtin .recover, #[], #[]⟩, ty, pos, aft, none⟩] false) c)] [] .run := by
      simp [Frame.enter, hf, hb, hN]
    have ht := (Rep.enter N args (Nat.le_of_ble_eq_true hl)).put d v (blt_lt hd)
    obtain ⟨m, s1, fr, rfl, hl'⟩ := hs .deferred ({ cl with mode := mode' } :: cs) _ (fun h => absurd rfl h) ht
    refine ⟨fr, u, ?_, hl'⟩
    rw [hent]
    generalize args.toArray ++ Array.replicate (N - args.toArray.size) undef = T at *
    have st1 : step P (lone (Fm f none .deferred T [.code (.seq (.region id #[⟨some d, .call ⟨.builtin .recover, #[], #[]⟩, ty, pos, aft, none⟩] false) c)] [] .run) (cl :: cs) w) = .next (lone (Fm f none .deferred T [.code (.region id #[⟨some d, .call ⟨.builtin .recover, #[], #[]⟩, ty, pos, aft, none⟩] false), .code c] [] .run) (cl :: cs) w) :=
      step_lone_go (by simp [stepG, stepG.exec])
    have st2 : step P (lone (Fm f none .deferred T [.code (.region id #[⟨some d, .call ⟨.builtin .recover, #[], #[]⟩, ty, pos, aft, none⟩] false), .code c] [] .run) (cl :: cs) w) = .next (lone (Fm f none .deferred T [.inRegion #[⟨some d, .call ⟨.builtin .recover, #[], #[]⟩, ty, pos, aft, none⟩] [0], .code c] [] .run) (cl :: cs) w) :=
      step_lone_go (by simp [stepG, stepG.exec, List.range_succ])
    have st3 : step P (lone (Fm f none .deferred T [.inRegion #[⟨some d, .call ⟨.builtin .recover, #[], #[]⟩, ty, pos, aft, none⟩] [0], .code c] [] .run) (cl :: cs) w) = .next (lone (Fm f none .deferred (T.setIfInBounds d v) [.inRegion #[⟨some d, .call ⟨.builtin .recover, #[], #[]⟩, ty, pos, aft, none⟩] [], .code c] [] .run) ({ cl with mode := mode' } :: cs) w) := by
      refine step_lone_go ?_
      rcases tryRec (Fm f none .deferred T [.inRegion #[⟨some d, .call ⟨.builtin .recover, #[], #[]⟩, ty, pos, aft, none⟩] [0], .code c] [] .run) cl cs rfl with ⟨h1, h2⟩ | ⟨v2, m2, h1, h2⟩
      · rw [hcl, hrec] at h2
        cases h2
        simp [stepG, stepG.exec, stepG.oper, Frame.oper?, Region.wanted, stepG.apply, execOp, resolve, invoke, builtin, h1, Frame.finish, ← hcl]
      · rw [hcl, hrec] at h2
        cases h2
        simp [stepG, stepG.exec, stepG.oper, Frame.oper?, Region.wanted, stepG.apply, execOp, resolve, invoke, builtin, h1, Frame.finish]
    have st4 : step P (lone (Fm f none .deferred (T.setIfInBounds d v) [.inRegion #[⟨some d, .call ⟨.builtin .recover, #[], #[]⟩, ty, pos, aft, none⟩] [], .code c] [] .run) ({ cl with mode := mode' } :: cs) w) = .next (lone (Fm f none .deferred (T.setIfInBounds d v) [.code c] [] .run) ({ cl with mode := mode' } :: cs) w) :=
      step_lone_go (by simp [stepG, stepG.exec])
    exact .head st1 (.head st2 (.head st3 (.head st4 s1)))
/-- What a frame's mode is when a deferred call of its has come to its end. -/
def after : FrameMode → FrameMode
  | .panicking ({ recovered := true, .. } :: older) => match older.dropWhile (!·.goexit) with
    | [] => .returning
    | rest => .panicking rest
  | m => m
theorem unw_defer {G : FuncId} {cap xs : List Value} {mode : FrameMode} {ds : List Deferred} {R' : FrameMode → World → Prop} (hG : ∀ args w, (callFunc G args).run P w = .ok (.enter G args) w) (hm : mode ≠ .run) (hc : DCall P G (xs ++ cap).toArray w mode R') (h : ∀ m w', R' m w' → Unw P f N (after m) E ds w' R) :
    Unw P f N mode E (⟨.fn (.func G) cap.toArray, xs.toArray⟩ :: ds) w R := by
  obtain ⟨m1, w1, hr, hs⟩ := hc
  obtain ⟨o, w', r, s⟩ := h m1 w1 hr
  refine ⟨o, w', r, fun kind cs tmps todo ht => ?_⟩
  obtain ⟨fr1, v, s1, hm1, hd1, hk1, hf1, fn1, hfn1, hres⟩ := hs (Fm f none kind tmps todo ds mode) cs rfl
  obtain ⟨fr, s2, hl⟩ := s kind cs tmps todo ht
  refine ⟨fr, .head (step_lone_go ?_) (s1.trans (.head (step_lone_go ?_) s2)), hl⟩
  · cases mode with
    | run => exact absurd rfl hm
    | returning => simp [stepG, unwind, callDeferred, invoke, hG, List.append_toArray]
    | panicking ch => simp [stepG, unwind, callDeferred, invoke, hG, List.append_toArray]
  · simp [stepG, unwind, doReturn, hm1, hd1, hk1, hf1, hfn1, hres, after]
    cases m1 with
    | run => rfl
    | returning => rfl
    | panicking ch =>
      cases ch with
      | nil => rfl
      | cons e older =>
        obtain ⟨ev, rc, ge⟩ := e
        cases rc
        · rfl
        · simp only []
          split <;> simp_all
/-! ### 4. Interface values -/
section
variable {P : Program} {ρ : Operand → Value} {w : World} {dst : Option Tmp} {ty : TypeId} {pos : String} {aft : Array Edge} {g : Option (Nat × Bool)}
theorem meths {T : TypeId} {ms : Array (String × TypeId)} (h : P.underlying T = some (.interface ms)) : P.underlying T = some (.interface (P.methodsAt T)) := by
  have : P.methodsAt T = ms := by simp [Program.methodsAt, h]
  rw [this]; exact h
theorem eqIf0 {T T' : TypeId} {x : Operand} {ms : Array (String × TypeId)} (hT : P.underlying T = some (.interface ms)) (hx : ρ x = .nilIface) (hy : ρ (.const .nilIface) = .nilIface) : Does P ⟨dst, .binOp .eql T x (.const .nilIface) T', ty, pos, aft, g⟩ ρ w (.bool true) w :=
  does_run rfl (by
    have h1 := run_equal_nil_nil (P := P) w T (meths hT)
    simp only [execOp, hx, hy, binOp, eqGuard]
    simp [h1])
theorem eqIf1 {T T' U : TypeId} {x : Operand} {v : Value} {ms : Array (String × TypeId)} (hT : P.underlying T = some (.interface ms)) (hx : ρ x = .iface U v) (hy : ρ (.const .nilIface) = .nilIface) : Does P ⟨dst, .binOp .eql T x (.const .nilIface) T', ty, pos, aft, g⟩ ρ w (.bool false) w :=
  does_run rfl (by
    have h1 := run_equal_held_nil (P := P) w T U v (meths hT)
    simp only [execOp, hx, hy, binOp, eqGuard]
    simp [h1])
theorem tAssert {T U : TypeId} {x : Operand} {v : Value} {d : TypeDesc} (hT : P.underlying T = some d) (hd : (match d with | .interface _ => false | _ => true) = true) (hx : ρ x = .iface T v) : Does P ⟨dst, .typeAssert x U T true, ty, pos, aft, g⟩ ρ w (.tuple #[v, .bool true]) w :=
  does_run rfl (by
    cases d <;> first | (cases hd; done) | simp [execOp, hx, Instr.typeAssert, run_underlying hT])
end
end
end Go.Proofs.Ytgfficbkajcdpaa.X

namespace Go.Proofs.Ytgfficbkajcdpaa.X
open Go

/-! ### lists -/
theorem getN {α : Type} {l : List α} {n : Nat} (i : Nat) (hl : l.length = n) (h : (i : Int) < (n : Int)) : ∃ x, l[i]? = some x := ⟨l[i]'(by omega), List.getElem?_eq_getElem (by omega)⟩
theorem drop_at {α : Type} {l : List α} {i : Nat} {x : α} (hx : l[i]? = some x) : l.drop i = x :: l.drop (i + 1) := by
  obtain ⟨h, rfl⟩ := List.getElem?_eq_some_iff.1 hx
  exact List.drop_eq_getElem_cons h
theorem take_at {α : Type} {l : List α} {i : Nat} {x : α} (hx : l[i]? = some x) : l.take (i + 1) = l.take i ++ [x] := by
  obtain ⟨h, rfl⟩ := List.getElem?_eq_some_iff.1 hx
  exact (List.take_append_getElem h).symm

/-! ### registers of 32 bits -/
theorem ofInt32 (a : BitVec 32) : BitVec.ofInt 32 (a.toNat : Int) = a := by
  rw [BitVec.ofInt_natCast, BitVec.ofNat_toNat, BitVec.setWidth_eq]
theorem w32 (a : BitVec 32) : IntKind.u32.wrap (a.toNat : Int) = (a.toNat : Int) := w_u32 (by have := a.isLt; omega)
theorem xor32 (a b : BitVec 32) : IntKind.u32.wrap ((BitVec.ofInt IntKind.u32.bits (a.toNat : Int) ^^^ BitVec.ofInt IntKind.u32.bits (b.toNat : Int)).toNat : Int) = ((a ^^^ b).toNat : Int) := by
  show IntKind.u32.wrap ((BitVec.ofInt 32 (a.toNat : Int) ^^^ BitVec.ofInt 32 (b.toNat : Int)).toNat : Int) = _
  rw [ofInt32, ofInt32]; exact w32 _
theorem and32 (a b : BitVec 32) : IntKind.u32.wrap ((BitVec.ofInt IntKind.u32.bits (a.toNat : Int) &&& BitVec.ofInt IntKind.u32.bits (b.toNat : Int)).toNat : Int) = ((a &&& b).toNat : Int) := by
  show IntKind.u32.wrap ((BitVec.ofInt 32 (a.toNat : Int) &&& BitVec.ofInt 32 (b.toNat : Int)).toNat : Int) = _
  rw [ofInt32, ofInt32]; exact w32 _
theorem or32 (a b : BitVec 32) : IntKind.u32.wrap ((BitVec.ofInt IntKind.u32.bits (a.toNat : Int) ||| BitVec.ofInt IntKind.u32.bits (b.toNat : Int)).toNat : Int) = ((a ||| b).toNat : Int) := by
  show IntKind.u32.wrap ((BitVec.ofInt 32 (a.toNat : Int) ||| BitVec.ofInt 32 (b.toNat : Int)).toNat : Int) = _
  rw [ofInt32, ofInt32]; exact w32 _
theorem com32 (a : BitVec 32) : IntKind.u32.wrap ((BitVec.ofInt IntKind.u32.bits (if IntKind.u32.signed then -1 else IntKind.u32.max) ^^^ BitVec.ofInt IntKind.u32.bits (a.toNat : Int)).toNat : Int) = ((~~~a).toNat : Int) := by
  show IntKind.u32.wrap ((BitVec.ofInt 32 4294967295 ^^^ BitVec.ofInt 32 (a.toNat : Int)).toNat : Int) = _
  rw [ofInt32, show BitVec.ofInt 32 4294967295 = BitVec.allOnes 32 by decide, BitVec.allOnes_xor]; exact w32 _
theorem shr32 (a : BitVec 32) (k : Nat) (hk : k ≤ 32) : ((a.toNat : Nat) : Int).fdiv (2 ^ (min ((k : Int)).toNat IntKind.u32.bits)) = ((a >>> k).toNat : Int) := by
  have : min ((k : Int)).toNat IntKind.u32.bits = k := by show min ((k : Int)).toNat 32 = k; omega
  have e : (2 : Int) ^ k = ((2 ^ k : Nat) : Int) := by rw [Int.natCast_pow]; rfl
  rw [this, e, BitVec.toNat_ushiftRight, Nat.shiftRight_eq_div_pow, Int.fdiv_eq_ediv_of_nonneg _ (Int.natCast_nonneg _)]
  rfl
theorem shl32 (a : BitVec 32) (k : Nat) (hk : k ≤ 32) : IntKind.u32.wrap (((a.toNat : Nat) : Int) * 2 ^ (min ((k : Int)).toNat IntKind.u32.bits)) = ((a <<< k).toNat : Int) := by
  have : min ((k : Int)).toNat IntKind.u32.bits = k := by show min ((k : Int)).toNat 32 = k; omega
  have e : (2 : Int) ^ k = ((2 ^ k : Nat) : Int) := by rw [Int.natCast_pow]; rfl
  rw [this, e, BitVec.toNat_shiftLeft, Nat.shiftLeft_eq, u32_wrap, ← Int.natCast_mul]
  rfl
theorem cv8_32 (c : UInt8) : IntKind.u32.wrap (c.toNat : Int) = ((BitVec.ofNat 32 c.toNat).toNat : Int) := by
  have := c.toNat_lt
  rw [BitVec.toNat_ofNat, u32_wrap]; omega
theorem cv32_8 (a : BitVec 32) : IntKind.u8.wrap (a.toNat : Int) = ((UInt8.ofNat a.toNat).toNat : Int) := by
  rw [u8_wrap, UInt8.toNat_ofNat']; omega

/-! ### rows of the call's own, new -/
def Fresh {α : Type} (K : Kd α) (e : TypeId) (w w' : World) (v : Value) (l : List α) : Prop := Mine K e (fun k => w.heap.size ≤ k) 0 0 w' v l ∧ Keep w w'
theorem Mine.step {α : Type} {K : Kd α} {e : TypeId} {S T : Nat → Prop} {w : World} {v : Value} {xs : List α} (h : Mine K e S 0 0 w v xs) (hS : ∀ k, S k → T k) : Mine K e T 0 0 w v xs := h.mono fun k _ => hS k

section
variable {P : Program} {ρ : Operand → Value} {w : World} {dst : Option Tmp} {ty : TypeId} {pos : String} {aft : Array Edge} {g : Option (Nat × Bool)}
/-- 'append(nil, make([]T, n)...)': a new row of zeros. -/
def NewRow (w : World) (b : Nat) (e : TypeId) (cap sz : Nat) : Prop := ∃ cur : Array Value, w.heap[b]? = some (.cells cur e (0, 0)) ∧ cur.size = cap * sz ∧ cap ≤ maxLen
theorem appMkE {e T U bytes sz : TypeId} {s x : Operand} {n : Int} (hT : P.underlying T = some (.slice e)) (hU : P.underlying U = some (.int .i64)) (hI : ElemInfo P e sz bytes) (hs : ρ s = .slice none 0 0) (hx : ρ x = .int .i64 n) (h0 : 0 < n) (hn : n * bytes ≤ 140737488355328) :
    DoesE P ⟨dst, .call ⟨.builtin .append, #[s, x], #[T, U]⟩, ty, pos, aft, g⟩ ρ w fun v w' => ∃ cap, v = .slice (some ⟨w.heap.size, 0, none⟩) n.toNat cap ∧ n.toNat ≤ cap ∧ NewRow w' w.heap.size e cap sz ∧ Keep w w' ∧ w'.heap.size = w.heap.size + 1 := by
  obtain ⟨⟨i, z, h1, h2, h3, h4, h5⟩, h6, h7⟩ := hI
  subst h3
  subst h4
  obtain ⟨m, rfl⟩ := Int.eq_ofNat_of_zero_le (Int.le_of_lt h0)
  have hm0 : 0 < m := by omega
  have hmb : m * i.bytes ≤ 140737488355328 := Int.ofNat_le.1 (by rw [Int.natCast_mul]; exact hn)
  have hm : m ≤ 140737488355328 := Nat.le_trans (Nat.le_mul_of_pos_right _ h7) hmb
  have hw : IntKind.i64.wrap (m : Int) = (m : Int) := w_i64 (by omega)
  have hn0 : m ≠ 0 := by omega
  have hms : m * i.size ≠ 0 := Nat.ne_of_gt (Nat.mul_pos hm0 h6)
  have h63' : ¬ (9223372036854775807 < (m : Int)) := by omega
  have h48' : ¬ (281474976710656 < Builtin.nextslicecap m 0 * i.bytes) := by rw [nextslicecap_zero hm0]; omega
  have h48 : ¬ ((281474976710656 : Int) < (m : Int) * (i.bytes : Int)) := by
    have : ((m * i.bytes : Nat) : Int) ≤ 140737488355328 := Int.ofNat_le.2 hmb
    rw [Int.natCast_mul] at this; omega
  have hneg : ¬ ((m : Int) < 0) := by omega
  refine (does_run (v := .slice (some ⟨w.heap.size, 0, none⟩) m (grownCap w m 0 e)) (w' := w.drew.alloc (.cells (Builtin.zeroCells z.cells m ++ Builtin.zeroCells z.cells (grownCap w m 0 e - m)) e)) rfl ?_).e ⟨grownCap w m 0 e, rfl, ?_, ⟨_, heap_alloc_new w.drew _, ?_, ?_⟩, ⟨rfl, rfl, rfl, by simp, fun k hk _ => heap_alloc_old w.drew _ hk⟩, by simp⟩
  · have key : (Builtin.append_ #[T, U] ty #[.slice none 0 0, .int .i64 (m : Int)]).run P w = .ok (.slice (some ⟨w.heap.size, 0, none⟩) m (grownCap w m 0 e)) (w.drew.alloc (.cells (Builtin.zeroCells z.cells m ++ Builtin.zeroCells z.cells (grownCap w m 0 e - m)) e)) := by
      simp [Builtin.append_, run_underlying hT, run_underlying hU, sizeOf, typeInfo, zeroValue, h1, h2, hn0, hms, h63', h48', h48, hneg, hw, asInt, asIntOf, Question.forced, run_firstCells_none, newRow, grownCap]
    simp only [execOp, resolve, invoke, builtin, List.map_toArray, List.map_cons, List.map_nil, hs, hx]
    simp [key]
  · exact grownCap_ge w m 0 e
  · rw [Array.size_append, size_zeroCells, size_zeroCells, h5, ← Nat.add_mul]
    congr 1
    have := grownCap_ge w m 0 e
    omega
  · exact grownCap_le_maxLen w m 0 e (by simp only [maxLen]; omega)
/-- Its beginning, empty, as a row of the call's own. -/
theorem NewRow.mine {α : Type} {K : Kd α} {e : TypeId} {S : Nat → Prop} {b cap : Nat} (h : NewRow w b e cap K.sz) (hS : S b) : Mine K e S 0 0 w (.slice (some ⟨b, 0, none⟩) 0 cap) [] := by
  obtain ⟨cur, h1, h2, h3⟩ := h
  exact ⟨some b, ⟨⟨[], rfl, by simp, .inr ⟨b, cap, cur, rfl, Nat.zero_le _, h1, Nat.zero_le _, h3, h2, by simp⟩⟩, rfl⟩, fun k hk => by cases hk; exact hS⟩
theorem capSl {e T : TypeId} {x : Operand} {A : Option Addr} {n c : Nat} (hT : P.underlying T = some (.slice e)) (hx : ρ x = .slice A n c) : Does P ⟨dst, .call ⟨.builtin .cap, #[x], #[T]⟩, ty, pos, aft, g⟩ ρ w (.int .i64 (c : Int)) w :=
  does_run rfl (by simp [execOp, resolve, invoke, builtin, Builtin.cap_, run_underlying hT, hx, goInt])
/-- The address of an element of an array. -/
theorem idxArr {e T : TypeId} {sz n : Nat} {x i : Operand} {ki : IntKind} {ad : Addr} {j : Int} (hT : P.underlying T = some (.array n e)) (hs : ∀ w, (sizeOf e).run P w = .ok sz w) (hx : ρ x = .pointer (some ad)) (hi : ρ i = .int ki j) (h0 : 0 ≤ j ∧ j < (n : Int)) :
    Does P ⟨dst, .indexAddr T x i, ty, pos, aft, g⟩ ρ w (.pointer (some (ad.add (j.toNat * sz)))) w :=
  does_run rfl (by simp [execOp, hx, hi, Instr.indexAt, asIntOf, run_underlying hT, hs, h0.1, h0.2, Instr.sureAddr])
theorem ptr_eq {T e : TypeId} (h : P.underlying T = some (.pointer e)) : P.underlying T = some (.pointer (P.pointee T)) := by
  have : P.pointee T = e := by simp [Program.pointee, h]
  rw [this]; exact h
/-- 'p == nil', 'p != nil'. -/
theorem eqPtrN {T e T' : TypeId} {x y : Operand} {A : Option Addr} (hT : P.underlying T = some (.pointer e)) (hx : ρ x = .pointer A) (hy : ρ y = .pointer none) : Does P ⟨dst, .binOp .eql T x y T', ty, pos, aft, g⟩ ρ w (.bool A.isNone) w :=
  does_run rfl (by
    have h1 := run_equal_pointer_nil (P := P) w T A (ptr_eq hT)
    simp only [execOp, hx, hy, binOp, eqGuard]
    simp [h1])
theorem nePtrN {T e T' : TypeId} {x y : Operand} {A : Option Addr} (hT : P.underlying T = some (.pointer e)) (hx : ρ x = .pointer A) (hy : ρ y = .pointer none) : Does P ⟨dst, .binOp .neq T x y T', ty, pos, aft, g⟩ ρ w (.bool (!A.isNone)) w :=
  does_run rfl (by
    have h1 := run_equal_pointer_nil (P := P) w T A (ptr_eq hT)
    simp only [execOp, hx, hy, binOp, eqGuard]
    simp [h1])
/-- '[]byte("..")' of a constant: the row gets a mark, no cell turns. -/
theorem freeze_at (w : World) (b k : Nat) {C : Array Value} {e : TypeId} (h : w.heap[b]? = some (.cells C e (0, 0))) : (w.freeze ⟨b, k, none⟩ 1).heap[b]? = some (.cells C e (k, k + 1)) ∧ Ext (fun j => j = b) w (w.freeze ⟨b, k, none⟩ 1) ∧ (w.freeze ⟨b, k, none⟩ 1).heap.size = w.heap.size := by
  unfold World.freeze
  rw [if_neg (by decide)]
  refine ⟨?_, ⟨rfl, rfl, rfl, by simp, fun j _ hj => ?_⟩, by simp⟩
  · simp only [Array.getElem?_modify, if_true, h, Option.map_some]
    try rfl
  · simp only [Array.getElem?_modify]
    rw [if_neg (fun q => hj q.symm)]
theorem cvSame {T e b : Nat} {x : Operand} {n c lo hi : Nat} {cs : List Value} {l : List UInt8} (hT : P.underlying T = some (.slice e)) (he : P.underlying e = some (.int .u8)) (hB : Blk w b cs e) (hS : Sl KB lo hi w (some ⟨b, 0, none⟩) n l) (hx : ρ x = .slice (some ⟨b, 0, none⟩) n c) :
    DoesE P ⟨dst, .convert T T x, ty, pos, aft, g⟩ ρ w fun v w' => v = .slice (some ⟨b, 0, none⟩) n c ∧ Sl KB lo hi w' (some ⟨b, 0, none⟩) n l ∧ Ext (fun k => k = b) w w' ∧ w'.heap.size = w.heap.size := by
  obtain ⟨f1, f2, f3⟩ := freeze_at w b cs.toArray.size hB
  have hsh : w.shape? b = some (e, cs.toArray.size) := by unfold World.shape?; rw [show w.heap[b]? = some (.cells cs.toArray e) from hB]
  have hc : ∀ a v, w.cell? a = some v → (w.freeze ⟨b, cs.toArray.size, none⟩ 1).cell? a = some v := fun a v ha => by
    by_cases q : a.block = b
    · have h1 : w.heap[a.block]? = some (.cells cs.toArray e) := by rw [q]; exact hB
      have h2 : (w.freeze ⟨b, cs.toArray.size, none⟩ 1).heap[a.block]? = some (.cells cs.toArray e (cs.toArray.size, cs.toArray.size + 1)) := by rw [q]; exact f1
      rw [← ha]
      unfold World.cell?
      rw [h1, h2]
    · rw [World.cell?_of_block (w := w) (f2.keep _ (World.block_lt_of_cell? w a ha) q)]; exact ha
  refine (does_run (w' := w.freeze ⟨b, cs.toArray.size, none⟩ 1) rfl ?_).e ⟨rfl, ⟨hS.len, hS.bound, fun hn => ?_⟩, f2, f3⟩
  · simp only [execOp, hx]
    simp [convert, run_underlying hT, run_underlying he, markStringish, hsh]
  · obtain ⟨ad, e1, h1, h2, h3⟩ := hS.at_ hn
    exact ⟨ad, e1, h1, h2, fun j y hy => by
      obtain ⟨q, hr, hq⟩ := h3 j y hy
      exact ⟨q, hr, fun i u hu => hc _ _ (hq i u hu)⟩⟩
end

/-! ### rows that are read whole or are the call's own: both -/
def FreshS {α : Type} (K : Kd α) (e : TypeId) (w w' : World) (v : Value) (l : List α) : Prop := ∃ A c, v = .slice A l.length c ∧ l.length ≤ c ∧ Sl K 0 w'.heap.size w' A l.length l ∧ Mine K e (fun k => w.heap.size ≤ k) 0 0 w' v l ∧ Keep w w'
theorem Fresh.s {α : Type} {K : Kd α} {e : TypeId} {w w' : World} {v : Value} {l : List α} (hF : Flat K) (h : Fresh K e w w' v l) : FreshS K e w w' v l := by
  have q := h.1.slF hF 0 (fun _ _ => Nat.zero_le _)
  obtain ⟨A, c, e, hc, hs⟩ := q
  exact ⟨A, c, e, hc, hs, h.1, h.2⟩
theorem freshB {e : TypeId} {w : World} : ∀ {l : List UInt8} (v : Value) (w' : World), Fresh KB e w w' v l → FreshS KB e w w' v l := fun _ _ h => h.s KB_flat
theorem repsB {w : World} : ∀ (ys : List UInt8), RepsV KB w ys (ys.map fun y => .int .u8 (y.toNat : Int))
  | [] => trivial
  | y :: ys => ⟨⟨_, rfl, KB_R 0 0 w y⟩, repsB ys⟩
/-- One cell, as it stands. -/
def KR1 : Kd Value where
  sz := 1
  R := fun _ _ _ v cs => cs = [v] ∧ v.oneCell' = true
  len := by rintro lo hi w x cs ⟨rfl, _⟩; rfl
  move := fun h _ => h
  wide := fun h _ _ => h
  one := by rintro lo hi w x cs ⟨rfl, h⟩ u hu; simp at hu; subst hu; exact h
theorem KR1_flat : Flat KR1 := fun h => h
/-- Several cells, as they stand. -/
def KRN (sz : Nat) : Kd Value where
  sz := sz
  R := fun _ _ _ v cs => v = .agg cs.toArray ∧ cs.length = sz ∧ ∀ u, u ∈ cs → u.oneCell' = true
  len := fun h => h.2.1
  move := fun h _ => h
  wide := fun h _ _ => h
  one := fun h => h.2.2
theorem KRN_flat (n : Nat) : Flat (KRN n) := fun h => h
/-- Slices that stand in a row, with what they hold. -/
def SlRows {α : Type} (K : Kd α) (lo hi : Nat) (w : World) : List Value → List (List α) → Prop
  | [], [] => True
  | v :: vs, l :: ls => (∃ A n c, v = .slice A n c ∧ n ≤ c ∧ Sl K lo hi w A n l) ∧ SlRows K lo hi w vs ls
  | _, _ => False
theorem SlRows.len {α : Type} {K : Kd α} {lo hi : Nat} {w : World} : ∀ {vs : List Value} {ls : List (List α)}, SlRows K lo hi w vs ls → vs.length = ls.length
  | [], [], _ => rfl
  | _ :: _, _ :: _, h => by simp [SlRows.len h.2]
  | [], _ :: _, h => h.elim
  | _ :: _, [], h => h.elim
theorem SlRows.get {α : Type} {K : Kd α} {lo hi : Nat} {w : World} : ∀ {vs : List Value} {ls : List (List α)}, SlRows K lo hi w vs ls → ∀ {i : Nat} {v : Value}, vs[i]? = some v → ∃ l A n c, ls[i]? = some l ∧ v = .slice A n c ∧ n ≤ c ∧ Sl K lo hi w A n l
  | [], [], _, i, v, hv => by simp at hv
  | u :: vs, l :: ls, h, i, v, hv => by
    cases i with
    | zero =>
      simp only [List.getElem?_cons_zero, Option.some.injEq] at hv
      subst hv
      obtain ⟨A, n, c, e, h1, h2⟩ := h.1
      exact ⟨l, A, n, c, rfl, e, h1, h2⟩
    | succ i => simp only [List.getElem?_cons_succ] at hv ⊢; exact SlRows.get h.2 hv
  | [], _ :: _, h, _, _, _ => h.elim
  | _ :: _, [], h, _, _, _ => h.elim
theorem SlRows.keep {α : Type} {K : Kd α} {lo hi : Nat} {w w' : World} (x : Keep w w') : ∀ {vs : List Value} {ls : List (List α)}, SlRows K lo hi w vs ls → SlRows K lo hi w' vs ls
  | [], [], _ => trivial
  | _ :: _, _ :: _, h => by
    obtain ⟨⟨A, n, c, e, h1, h2⟩, h3⟩ := h
    exact ⟨⟨A, n, c, e, h1, h2.keep x⟩, SlRows.keep x h3⟩
  | [], _ :: _, h => h.elim
  | _ :: _, [], h => h.elim
section
variable {P : Program} {ρ : Operand → Value} {w : World} {dst : Option Tmp} {ty : TypeId} {pos : String} {aft : Array Edge} {g : Option (Nat × Bool)}
/-- A literal, told in its own block. -/
theorem litKF {α : Type} {K : Kd α} (hF : Flat K) {T e : TypeId} {n : Nat} {z : Value} {ps : Array (Nat × Operand)} {xs : List Operand} {vs : List Value} {ys : List α} (hT : P.underlying T = some (.slice e)) (hs : ∀ w, (sizeOf e).run P w = .ok K.sz w) (hz : ∀ w, (zeroValue e).run P w = .ok z w)
    (h24 : Nat.ble (n * K.sz) 16777216 = true) (h0 : Nat.blt 0 (n * K.sz) = true) (hps : ps.toList = (xs.zipIdx 0).map fun x => (x.2, x.1)) (hn : xs.length = n) (hv : xs.map ρ = vs) (hr : RepsV K w ys vs) :
    DoesE P ⟨dst, .buildSlice T n ps, ty, pos, aft, g⟩ ρ w fun v' w' => v' = .slice (some ⟨w.heap.size, 0, none⟩) n n ∧ Sl K w.heap.size w'.heap.size w' (some ⟨w.heap.size, 0, none⟩) n ys ∧ Blk w' w.heap.size (vs.flatMap fun v => v.cells.toList) e ∧ Keep w w' ∧ w'.heap.size = w.heap.size + 1 := by
  obtain ⟨q1, q2, q3⟩ := hr.reps
  have hvl : vs.length = n := by rw [← hv, List.length_map, hn]
  have h0' := blt_lt h0
  have hp : 0 < K.sz := Nat.pos_of_ne_zero fun e => by rw [e] at h0'; omega
  have e1 : (ps.map fun (i, x) => (i, ρ x)).toList = (vs.zipIdx 0).map fun x => (x.2, x.1) := by
    rw [Array.toList_map, hps, ← hv, List.zipIdx_map, List.map_map, List.map_map]
    rfl
  refine (litNE (K := K) (lo := w.heap.size) (hi := w.heap.size) (cs := vs.flatMap fun v => v.cells.toList) (ys := ys) hT hs hz (Nat.le_of_ble_eq_true h24) h0' ?_ (q1.flat hF) (by omega)).mono fun v' w' ⟨h1, h2, h3, h4, h5⟩ => ⟨h1, h2.wide (by omega) (by omega), h3, h4, h5⟩
  rw [e1]
  exact Great.fill_whole hp vs _ q3 (by simp [hvl])
end
theorem SlRows.ext {α : Type} {K : Kd α} {lo hi : Nat} {w w' : World} {T : Nat → Prop} (x : Ext T w w') (hT : ∀ k, lo ≤ k → k < hi → ¬ T k) : ∀ {vs : List Value} {ls : List (List α)}, SlRows K lo hi w vs ls → SlRows K lo hi w' vs ls
  | [], [], _ => trivial
  | _ :: _, _ :: _, h => by
    obtain ⟨⟨A, n, c, e, h1, h2⟩, h3⟩ := h
    exact ⟨⟨A, n, c, e, h1, h2.ext x hT⟩, SlRows.ext x hT h3⟩
  | [], _ :: _, h => h.elim
  | _ :: _, [], h => h.elim
end Go.Proofs.Ytgfficbkajcdpaa.X

namespace Go.Proofs.Ytgfficbkajcdpaa.X
open Go

theorem reps_zero (lo hi : Nat) (w : World) : ∀ n, Reps KB lo hi w (List.replicate n (0 : UInt8)) (List.replicate n (.int .u8 0))
  | 0 => rfl
  | n + 1 => ⟨[.int .u8 0], _, rfl, KB_R lo hi w 0, reps_zero lo hi w n⟩
theorem zeroCells_list (n : Nat) : (Builtin.zeroCells #[.int .u8 0] n).toList = List.replicate n (.int .u8 0) := by
  apply List.ext_getElem
  · simp [Builtin.zeroCells]
  · intro i h1 h2
    simp [Builtin.zeroCells]
    rw [show i % 1 = 0 by omega]; rfl
theorem madeCells_list (n : Nat) : (madeCells #[.int .u8 0] (n * 1)).toList = List.replicate n (.int .u8 0) := by
  apply List.ext_getElem
  · simp [madeCells]
  · intro i h1 h2
    simp [madeCells]
    rw [show i % 1 = 0 by omega]; rfl

section
variable {P : Program} {ρ : Operand → Value} {w : World} {dst : Option Tmp} {ty : TypeId} {pos : String} {aft : Array Edge} {g : Option (Nat × Bool)}
structure ByteInfo (P : Program) (e : Nat) : Prop where
  ex : ∃ i, P.info? e = some i ∧ i.zero = some (.int .u8 0) ∧ i.size = 1 ∧ i.bytes = 1
theorem ByteInfo.of {P : Program} {e : Nat} (h : (P.info? e).map (fun i => (i.zero, i.size, i.bytes)) = some (some (.int .u8 0), 1, 1)) : ByteInfo P e := by
  obtain ⟨i, hi, hq⟩ := Option.map_eq_some_iff.1 h
  simp only [Prod.mk.injEq] at hq
  exact ⟨i, hi, hq.1, hq.2.1, hq.2.2⟩
/-- 'make([]byte, n)'. -/
theorem mkB {T e : TypeId} {S : Nat → Prop} {x y : Operand} {kx ky : IntKind} {n : Nat} (hT : P.underlying T = some (.slice e)) (hI : ByteInfo P e) (hx : ρ x = .int kx (n : Int)) (hy : ρ y = .int ky (n : Int)) (hn : n ≤ 140737488355328) (hS : S w.heap.size) :
    DoesE P ⟨dst, .makeSlice T x y, ty, pos, aft, g⟩ ρ w fun v w' => v = .slice (some ⟨w.heap.size, 0, none⟩) n n ∧ Sl KB 0 w'.heap.size w' (some ⟨w.heap.size, 0, none⟩) n (List.replicate n 0) ∧ Mine KB e S 0 0 w' v (List.replicate n 0) ∧ Keep w w' := by
  obtain ⟨i, h1, h2, h3, h4⟩ := hI
  obtain ⟨w', q1, q2, q3⟩ := run_make_full (P := P) w 0 T e i (.int .u8 0) 1 hT h1 h2 h3 kx ky n (by rw [h4]; omega) (by simp only [maxLen]; omega) (Nat.zero_le _)
  have hz : (Value.int .u8 0).cells = #[.int .u8 0] := rfl
  rw [hz, madeCells_list] at q2
  have hM : Mine KB e S 0 0 w' (.slice (some ⟨w.heap.size, 0, none⟩) n n) (List.replicate n 0) := ⟨some w.heap.size, ⟨⟨_, reps_zero 0 0 w' n, by rw [List.length_replicate]; exact q2⟩, rfl⟩, fun k hk => by cases hk; exact hS⟩
  have hSl : Sl KB 0 w'.heap.size w' (some ⟨w.heap.size, 0, none⟩) n (List.replicate n 0) := by
    obtain ⟨A, c, e1, _, hs⟩ := hM.slF KB_flat 0 (fun _ _ => Nat.zero_le _)
    injection e1 with e2 e3 e4
    rw [← e2, ← e3] at hs
    exact hs
  refine (does_run (w' := w') rfl (by simp only [execOp, hx, hy]; simp [q1])).e ⟨rfl, hSl, hM, ⟨q3.os, q3.tape, q3.output, q3.size, fun k hk _ => q3.block k hk (by simp)⟩⟩
/-- 'append(v, make([]byte, n)...)'. -/
theorem appMkB {T U e : TypeId} {S : Nat → Prop} {s x : Operand} {v : Value} {xs : List UInt8} {n : Int} (hT : P.underlying T = some (.slice e)) (hU : P.underlying U = some (.int .i64)) (hI : ByteInfo P e) (hs : ρ s = v) (hx : ρ x = .int .i64 n) (h0 : 0 ≤ n) (hO : Mine KB e S 0 0 w v xs) (hmax : xs.length + n.toNat ≤ 140737488355328) (hfr : ∀ k, w.heap.size ≤ k → S k) :
    DoesE P ⟨dst, .call ⟨.builtin .append, #[s, x], #[T, U]⟩, ty, pos, aft, g⟩ ρ w fun v' w' => Mine KB e S 0 0 w' v' (xs ++ List.replicate n.toNat 0) ∧ Ext S w w' := by
  obtain ⟨i, h1, h2, h3, h4⟩ := hI
  obtain ⟨m, rfl⟩ := Int.eq_ofNat_of_zero_le h0
  rw [Int.toNat_natCast] at hmax ⊢
  obtain ⟨b, ⟨⟨cs, hr, hrow0⟩, hbb⟩, hb⟩ := hO
  have hrow : w.ownsRow 0 e 1 v xs.length cs := hrow0
  have hw : IntKind.i64.wrap (m : Int) = (m : Int) := w_i64 (by omega)
  have hneg : ¬ ((m : Int) < 0) := by omega
  have h48 : ¬ ((281474976710656 : Int) < (m : Int)) := by omega
  have hzc := zeroCells_list
  have hw0 : IntKind.i64.wrap 0 = 0 := by decide
  have key : ∃ v1 w1, (Builtin.append_ #[T, U] ty #[v, .int .i64 (m : Int)]).run P w = .ok v1 w1 ∧ w1.ownsRow 0 e 1 v1 (xs.length + m) (cs ++ List.replicate m (.int .u8 0)) ∧ w.grownBy w1 v.ownBlock ∧ (v1.ownBlock = v.ownBlock ∨ v1.ownBlock = some w.heap.size) := by
    have hcl : cs.length = xs.length := by have := hrow.1; omega
    rcases hrow.2 with ⟨rfl, hn0⟩ | ⟨g', cap, cur, rfl, hbg, hg, hnc, hcm, hcs, htake⟩
    · have hcs0 : cs = [] := List.eq_nil_of_length_eq_zero (by omega)
      subst hcs0
      by_cases hm : m = 0
      · subst hm
        refine ⟨.slice none 0 0, w, ?_, by simpa using hrow, World.grownBy.refl w _, .inl rfl⟩
        simp [Builtin.append_, run_underlying hT, run_underlying hU, sizeOf, typeInfo, h1, h4, asInt, asIntOf, hw0]
      · have h48' : ¬ (281474976710656 < Builtin.nextslicecap m 0 * i.bytes) := by rw [nextslicecap_zero (by omega), h4]; omega
        have h63' : ¬ (9223372036854775807 < (m : Int)) := by omega
        have hge := grownCap_ge w m 0 e
        refine ⟨.slice (some ⟨w.heap.size, 0, none⟩) m (grownCap w m 0 e), w.drew.alloc (.cells (Builtin.zeroCells #[.int .u8 0] m ++ Builtin.zeroCells #[.int .u8 0] (grownCap w m 0 e - m)) e), ?_, ⟨by simp [hn0], .inr ⟨w.heap.size, _, _, by rw [hn0, Nat.zero_add], Nat.zero_le _, heap_alloc_new w.drew _, by omega, grownCap_le_maxLen w m 0 e (by simp only [maxLen]; omega), ?_, ?_⟩⟩, ⟨rfl, rfl, rfl, by simp, fun k hk _ => heap_alloc_old w.drew _ hk⟩, .inr rfl⟩
        · have hms : m * i.size ≠ 0 := by rw [h3]; omega
          simp [Builtin.append_, run_underlying hT, run_underlying hU, sizeOf, typeInfo, zeroValue, h1, h2, h4, hm, hms, h63', h48', h48, hneg, hw, asInt, asIntOf, Question.forced, run_firstCells_none, newRow, grownCap, Value.cells]
          simp [h4] at h48'
          omega
        · rw [Array.size_append, size_zeroCells, size_zeroCells]; simp; omega
        · rw [Array.toList_append, hzc, hn0]; simp
    · by_cases hroom : xs.length + m ≤ cap
      · have hfit : xs.length + m ≤ cur.size := by omega
        have hst := run_storeCells_at P g' xs.length e (List.replicate m (.int .u8 0)) 0 cur w hg (by simpa using hfit) (by intro u hu; rw [(List.mem_replicate.1 hu).2]; rfl)
        simp only [Nat.add_zero] at hst
        refine ⟨.slice (some ⟨g', 0, none⟩) (xs.length + m) cap, w.setRow g' (cur.toList.take xs.length ++ List.replicate m (Value.int .u8 0) ++ cur.toList.drop (xs.length + (List.replicate m (Value.int .u8 0)).length)).toArray, ?_, ⟨by simp [hcl], .inr ⟨g', cap, _, rfl, hbg, setRow_heap w g' cur _ e _ hg, hroom, hcm, ?_, ?_⟩⟩, ⟨rfl, rfl, rfl, by simp, fun k _ hk => setRow_other w g' k _ (fun e => hk (by simp [Value.ownBlock, e]))⟩, .inl rfl⟩
        · by_cases hm : m = 0
          · subst hm
            have := setRow_self w g' cur e (0, 0) hg
            simp [Builtin.append_, run_underlying hT, run_underlying hU, sizeOf, typeInfo, h1, h4, asInt, asIntOf, hw0, hnc, storeCells, this]
          · have hms : m * i.size ≠ 0 := by rw [h3]; omega
            have hst' := hst
            simp only [List.length_replicate] at hst' ⊢
            simp [Builtin.append_, run_underlying hT, run_underlying hU, sizeOf, typeInfo, zeroValue, h1, h2, h3, h4, hm, hms, hroom, h48, hneg, hw, asInt, asIntOf, Addr.add_lit, Value.cells, hzc, hst']
        · simp only [List.size_toArray, List.length_append, List.length_take, List.length_drop, Array.length_toList, List.length_replicate]
          omega
        · have ht2 : cur.toList.take xs.length = cs := by simpa using htake
          rw [ht2]
          have hl2 : (cs ++ List.replicate m (Value.int .u8 0)).length = (xs.length + m) * 1 := by simp [hcl]
          rw [← hl2]
          exact List.take_left
      · have hm : m ≠ 0 := by omega
        have hms : m * i.size ≠ 0 := by rw [h3]; omega
        have hf := run_firstCells_some (P := P) w.drew 1 xs.length ⟨g', 0, none⟩ xs.length cap cs (by omega) (by intro j u hu; have := hrow.cells (g := g') rfl j u hu; simpa using this)
        have h48' : ¬ (281474976710656 < Builtin.nextslicecap (xs.length + m) cap * i.bytes) := Nat.not_lt.2 (growslice_fits (by omega) (by rw [h4]; omega))
        have h63' : ¬ (9223372036854775807 < ((xs.length + m : Nat) : Int)) := by omega
        have hge := grownCap_ge w (xs.length + m) cap e
        refine ⟨.slice (some ⟨w.heap.size, 0, none⟩) (xs.length + m) (grownCap w (xs.length + m) cap e), w.drew.alloc (.cells (cs.toArray ++ Builtin.zeroCells #[.int .u8 0] m ++ Builtin.zeroCells #[.int .u8 0] (grownCap w (xs.length + m) cap e - (xs.length + m))) e), ?_, ⟨by simp [hcl], .inr ⟨w.heap.size, _, _, rfl, Nat.zero_le _, heap_alloc_new w.drew _, by omega, grownCap_le_maxLen w _ cap e (by simp only [maxLen]; omega), ?_, ?_⟩⟩, ⟨rfl, rfl, rfl, by simp, fun k hk _ => heap_alloc_old w.drew _ hk⟩, .inr rfl⟩
        · have hms1 : ¬ (m * 1 = 0) := by omega
          have h63'' : ¬ ((9223372036854775807 : Int) < (xs.length : Int) + (m : Int)) := by omega
          have h48'' : ¬ (281474976710656 < Builtin.nextslicecap (xs.length + m) cap) := by rw [h4, Nat.mul_one] at h48'; exact h48'
          simp [Builtin.append_, run_underlying hT, run_underlying hU, sizeOf, typeInfo, zeroValue, h1, h2, h3, h4, hm, hms, hroom, h48, h63'', h48'', hneg, hw, asInt, asIntOf, Question.forced, hf, newRow, grownCap, Value.cells]
        · simp only [Array.size_append, size_zeroCells, List.size_toArray]; simp; omega
        · simp only [Array.toList_append, hzc]
          have hl2 : (cs ++ List.replicate m (Value.int .u8 0)).length = (xs.length + m) * 1 := by simp [hcl]
          rw [← hl2]
          exact List.take_left
  obtain ⟨v1, w1, hrun, hown, hg, hat⟩ := key
  have hext : Ext S w w1 := (Ext.of_grown hg).mono fun k _ hk => hb k (by rw [← hbb]; exact hk)
  refine (does_run (w' := w1) rfl (by simp only [execOp, resolve, invoke, builtin, List.map_toArray, List.map_cons, List.map_nil, hs, hx]; simp [hrun])).e ⟨⟨v1.ownBlock, ⟨⟨_, Reps.app (hr.flat KB_flat) (reps_zero 0 0 w1 m), by rw [List.length_append, List.length_replicate]; exact hown⟩, rfl⟩, ?_⟩, hext⟩
  intro k hk
  rcases hat with hat | hat
  · exact hb k (by rw [← hbb, ← hat]; exact hk)
  · rw [hat] at hk
    cases hk
    exact hfr _ (Nat.le_refl _)
end
end Go.Proofs.Ytgfficbkajcdpaa.X

namespace Go.Proofs.Ytgfficbkajcdpaa.X
open Go

theorem Sl.rows {α : Type} {K : Kd α} {lo hi : Nat} {w : World} {A : Option Addr} {n : Nat} {ls : List (List α)} (h : Sl (Kd.slice K) lo hi w A n ls) : ∃ vs, Sl KR1 lo hi w A n vs ∧ SlRows K lo hi w vs ls := by
  have key : ∀ (ls : List (List α)) (off : Nat), (∀ j x, ls[j]? = some x → ∃ B m c, m ≤ c ∧ Sl K lo hi w B m x ∧ ∀ ad, A = some ad → w.cell? (ad.add (off + j)) = some (.slice B m c)) →
      ∃ vs : List Value, SlRows K lo hi w vs ls ∧ (∀ j v, vs[j]? = some v → (∀ ad, A = some ad → w.cell? (ad.add (off + j)) = some v) ∧ v.oneCell' = true) := by
    intro ls
    induction ls with
    | nil => intro off _; exact ⟨[], trivial, fun j v hv => by simp at hv⟩
    | cons x ls ih =>
      intro off hq
      obtain ⟨B, m, c, h1, h2, h3⟩ := hq 0 x rfl
      obtain ⟨vs, hr, hv⟩ := ih (off + 1) fun j y hy => by
        obtain ⟨B, m, c, g1, g2, g3⟩ := hq (j + 1) y (by simpa using hy)
        exact ⟨B, m, c, g1, g2, fun ad e => by have := g3 ad e; rwa [show off + (j + 1) = off + 1 + j by omega] at this⟩
      refine ⟨.slice B m c :: vs, ⟨⟨B, m, c, rfl, h1, h2⟩, hr⟩, fun j v hj => ?_⟩
      cases j with
      | zero =>
        simp only [List.getElem?_cons_zero, Option.some.injEq] at hj
        subst hj
        exact ⟨h3, rfl⟩
      | succ j =>
        simp only [List.getElem?_cons_succ] at hj
        obtain ⟨g1, g2⟩ := hv j v hj
        exact ⟨fun ad e => by have := g1 ad e; rwa [show off + 1 + j = off + (j + 1) by omega] at this, g2⟩
  obtain ⟨vs, hr, hv⟩ := key ls 0 fun j x hx => by
    obtain ⟨ad, cs, e, ⟨B, m, c, hcs, h1, h2⟩, hq⟩ := h.get j x hx
    refine ⟨B, m, c, h1, h2, fun ad' e' => ?_⟩
    rw [e] at e'
    cases e'
    have := hq 0 (.slice B m c) (by rw [hcs]; rfl)
    simpa [Kd.slice] using this
  refine ⟨vs, ⟨hr.len.trans h.len, h.bound, fun hn => ?_⟩, hr⟩
  obtain ⟨ad, e, h1, h2, _⟩ := h.at_ hn
  refine ⟨ad, e, h1, h2, fun j v hj => ?_⟩
  obtain ⟨g1, g2⟩ := hv j v hj
  refine ⟨[v], ⟨rfl, g2⟩, fun i u hu => ?_⟩
  match i, hu with
  | 0, hu =>
    simp only [List.getElem?_cons_zero, Option.some.injEq] at hu
    subst hu
    have := g1 ad e
    simpa [KR1] using this
end Go.Proofs.Ytgfficbkajcdpaa.X

namespace Go.Proofs.Ytgfficbkajcdpaa.X
open Go

theorem reps_set {lo hi : Nat} {w : World} {y : UInt8} : ∀ {xs : List UInt8} {cs : List Value} (j : Nat), Reps KB lo hi w xs cs → Reps KB lo hi w (xs.set j y) (cs.set j (.int .u8 (y.toNat : Int)))
  | [], cs, j, h => by
    have : cs = [] := h
    subst this; exact rfl
  | x :: xs, cs, j, ⟨a, b, e, h1, h2⟩ => by
    have ha : a = [.int .u8 (x.toNat : Int)] := h1.1
    subst ha
    subst e
    cases j with
    | zero => exact ⟨[.int .u8 (y.toNat : Int)], b, rfl, KB_R lo hi w y, h2⟩
    | succ j => exact ⟨[.int .u8 (x.toNat : Int)], _, rfl, h1, reps_set j h2⟩
section
variable {P : Program} {ρ : Operand → Value} {w : World} {dst : Option Tmp} {ty : TypeId} {pos : String} {aft : Array Edge} {g : Option (Nat × Bool)}
theorem storeM {T e : TypeId} {S : Nat → Prop} {a x : Operand} {A : Option Addr} {n c j : Nat} {xs : List UInt8} {y : UInt8} (hs : ∀ w, (sizeOf T).run P w = .ok 1 w) (hM : Mine KB e S 0 0 w (.slice A n c) xs) (hj : j < xs.length) (ha : ρ a = .pointer (some ((A.getD default).add (j * 1)))) (hx : ρ x = .int .u8 (y.toNat : Int)) :
    DoesE P ⟨none, .store T a x, ty, pos, aft, g⟩ ρ w fun _ w' => Mine KB e S 0 0 w' (.slice A n c) (xs.set j y) ∧ Ext S w w' ∧ w'.heap.size = w.heap.size := by
  obtain ⟨b, ⟨⟨cs, hr, hrow⟩, hbb⟩, hb⟩ := hM
  have hl : cs.length = xs.length * 1 := hrow.1
  rcases hrow.2 with ⟨_, hn⟩ | ⟨g', cap, cur, he, hbg, hg, hnc, hcm, hcs, htake⟩
  · omega
  · injection he with e1 e2 e3
    subst e1
    have hcs : cur.size = cap * 1 := hcs
    have hi : j < cur.size := by omega
    rw [show (Option.getD (some (⟨g', 0, none⟩ : Addr)) default).add (j * 1) = ⟨g', j, none⟩ by rw [show j * 1 = j by omega]; show (⟨g', 0, none⟩ : Addr).add j = _; rw [add_mk, Nat.zero_add]] at ha
    have hc : w.cell? ⟨g', j, none⟩ = some (cur[j]'hi) := by rw [cell_of_row w g' j cur e (0, 0) hg]; exact Array.getElem?_eq_getElem hi
    have hf : w.frozen? ⟨g', j, none⟩ = false := frozen_of_row w g' j cur e hg
    have hst : (store ⟨g', j, none⟩ (.int .u8 (y.toNat : Int))).run P w = .ok () (w.setCell ⟨g', j, none⟩ (.int .u8 (y.toNat : Int))) := by simp [store, Sem.run, hc, hf]
    have hSg : S g' := hb g' (by rw [← hbb]; rfl)
    refine (does_skip (w' := w.setCell ⟨g', j, none⟩ (.int .u8 (y.toNat : Int))) rfl ?_).e ⟨⟨some g', ⟨⟨cs.set j (.int .u8 (y.toNat : Int)), reps_set j (hr.flat KB_flat), ?_⟩, rfl⟩, fun k hk => by cases hk; exact hSg⟩, (Ext.setCell w ⟨g', j, none⟩ _).mono (fun k _ hk => by rw [show k = g' from hk]; exact hSg), by simp⟩
    · simp only [execOp, ha, hx, Instr.storeAt, Instr.sureAddr, storeVar, Value.cells]
      simp [hs, storeCells, add_zero, hst]
    · refine ⟨by rw [List.length_set, List.length_set]; exact hl, .inr ⟨g', cap, cur.set! j (.int .u8 (y.toNat : Int)), ?_, hbg, ?_, by rw [List.length_set]; exact hnc, hcm, by rw [show KB.sz = 1 from rfl]; simp [hcs], ?_⟩⟩
      · rw [List.length_set, e2, e3]
      · have := heap_setCell_same w g' j cur e (.int .u8 (y.toNat : Int)) hg
        simpa using this
      · rw [List.length_set]
        have : (cur.set! j (Value.int .u8 (y.toNat : Int))).toList = cur.toList.set j (.int .u8 (y.toNat : Int)) := by simp
        rw [this, List.take_set, htake]
end
end Go.Proofs.Ytgfficbkajcdpaa.X

namespace Go.Proofs.Ytgfficbkajcdpaa.X
open Go
set_option linter.unusedVariables false
set_option linter.unusedSimpArgs false

/-- A CALL OF THE VALUE yv, wherever it stands. -/
def YC (P : Program) (yv : Value) (args : List Value) (w : World) (R : Value → World → Prop) : Prop :=
  ∀ (dst : Option Tmp) (ty : TypeId) (pos : String) (aft : Array Edge) (g : Option (Nat × Bool)) (x : Operand) (xs : List Operand) (tys : Array TypeId) (ρ : Operand → Value), ρ x = yv → xs.map ρ = args → DoesE P ⟨dst, .call ⟨.value x, xs.toArray, tys⟩, ty, pos, aft, g⟩ ρ w R
theorem YC.mono {P : Program} {yv : Value} {args : List Value} {w : World} {R R' : Value → World → Prop} (h : YC P yv args w R) (hr : ∀ v w', R v w' → R' v w') : YC P yv args w R' :=
  fun dst ty pos aft g x xs tys ρ h1 h2 => (h dst ty pos aft g x xs tys ρ h1 h2).mono hr
theorem YC.of_ret {P : Program} {G : FuncId} {cap args : List Value} {w : World} {R : Value → World → Prop} (hc : Ret P G (args ++ cap).toArray w R) (hG : ∀ args w, (callFunc G args).run P w = .ok (.enter G args) w) : YC P (.func (.func G) #[] cap.toArray) args w R :=
  fun dst ty pos aft g x xs tys ρ h1 h2 => callVE h1 hc hG h2

/-! ### rounds -/
/-- The slots as an array. -/
def tmpsOf (N : Nat) (E : Env) : Array Value := Array.ofFn fun i : _root_.Fin N => E.at_ i.1
theorem Rep.unique {N : Nat} {E : Env} {tmps : Array Value} (h : Rep N E tmps) : tmps = tmpsOf N E := by
  apply Array.ext
  · rw [h.size]; simp [tmpsOf]
  · intro i h1 h2
    have := h.at_ i
    simp only [Array.getD, h1, dif_pos] at this
    simp [tmpsOf, ← this]

theorem lk_ge {N t : Nat} (ht : N ≤ t) (b : Nat → Value) (hb : b t = undef) : ∀ L : List (Nat × Value), (L.all fun p => Nat.blt p.1 N) = true → lk b L t = undef
  | [], _ => hb
  | (d, v) :: L, h => by
    simp only [List.all_cons, Bool.and_eq_true] at h
    have hd := blt_lt h.1
    have : Nat.beq d t = false := by
      cases hq : Nat.beq d t
      · rfl
      · have := Nat.eq_of_beq_eq_true hq; omega
    unfold lk
    rw [this]
    exact lk_ge ht b hb L h.2
theorem Rep.of {N : Nat} {E : Env} (h : (E.l.all fun p => Nat.blt p.1 N) = true) (hb : E.b = fun _ => undef) : Rep N E (tmpsOf N E) := by
  refine ⟨by simp [tmpsOf], fun t => ?_⟩
  by_cases ht : t < N
  · simp [Array.getD, tmpsOf, ht]
  · have h1 : E.at_ t = undef := lk_ge (by omega) E.b (by rw [hb]) E.l h
    rw [h1]
    simp [Array.getD, tmpsOf, ht]
section
variable {P : Program} {f : FuncId} {N : Nat} {k : List Item} {E : Env} {D : List Deferred} {w : World} {R : Out → World → Prop} {l : Nat} {r : Loop}
theorem YC.round {args : List Value} {R : Value → World → Prop} (hL : w.heap[l]? = some (.loop r)) (hs : args.length = r.params.size)
    (hrep : Rep N E ((r.params.zip args.toArray).foldl (fun tmps (t, a) => tmps.setIfInBounds t a) r.tmps))
    (hrun : Run P r.fn N (some l) [.code r.assign, .beginRound, .code r.body] E [] w fun o w' => match o with | .ret v => R v w' | .pan _ => False) : YC P (.func (.yield l) #[] #[]) args w R := by
  intro dst ty pos aft g x xs tys ρ hx hxs
  obtain ⟨o, w', hr, s⟩ := hrun
  cases o with
  | pan ch => exact hr.elim
  | ret v =>
    refine ⟨v, w', ?_, hr⟩
    intro fr cs ops i rest k ht hm ho hw he
    obtain ⟨m, s1, hT⟩ := s .normal (fr :: cs) _ (fun _ => ⟨rfl, by simp⟩) hrep
    have hm' := hT fr cs rfl
    subst hm'
    refine .head (step_lone_go ?_) s1
    have hy := run_yield (P := P) (args := args.toArray) hL (by simpa using hs)
    have hex : (execOp ρ ⟨dst, .call ⟨.value x, xs.toArray, tys⟩, ty, pos, aft, g⟩).run P w = .ok (.round l r.fn ((r.params.zip args.toArray).foldl (fun tmps (t, a) => tmps.setIfInBounds t a) r.tmps) r.assign r.body) w := by
      simp only [execOp, resolve, List.map_toArray, hxs, hx]
      simp [Deferred.ofValue, invoke, hy]
    rw [stepG_op' ht hm ho hw rfl, execOp_eq _ rfl he]
    simp only [stepG.apply, Sem.runT_eq, hex, GStep.bare_after, if_true, ht]
    rfl
theorem beginRound (hL : w.heap[l]? = some (.loop r)) (hr : r.state = .ready) (h : Run P f N (some l) k E D (w.putObj l (.loop { r with state := .busy })) R) : Run P f N (some l) (.beginRound :: k) E D w R := by
  obtain ⟨o, w', hq, s⟩ := h
  refine ⟨o, w', hq, fun kind cs tmps hc ht => ?_⟩
  obtain ⟨m, s1, hT⟩ := s kind cs tmps hc ht
  refine ⟨m, .head (step_lone_go ?_) s1, hT⟩
  have hb := run_beginRound (P := P) hL hr
  simp [stepG, stepG.exec, stepG.apply, hb, Frame.finish, Option.elim]
theorem endRound (hL : w.heap[l]? = some (.loop r)) (h : R (.ret (.bool true)) (w.putObj l (.loop { r with state := .ready, pending := none }))) : Run P f N (some l) [] E D w R := by
  refine ⟨_, _, h, fun kind cs tmps hc ht => ?_⟩
  obtain ⟨rfl, hne⟩ := hc (by simp)
  cases cs with
  | nil => exact absurd rfl hne
  | cons c cs =>
    refine ⟨lone (c.finish (.bool true)) cs (w.putObj l (.loop { r with state := .ready, pending := none })), .one (step_lone_go ?_), fun c' cs' e => ?_⟩
    · have hb := run_endRound (P := P) none hL
      simp [stepG, stepG.exec, hb, doReturn]
    · cases e; rfl
/-- THE LOOP: a call of the function, then what stands behind. -/
theorem rangeFunc {fo : Operand} {ps : Array Tmp} {assign body : Code} {gf : FuncId} {cap : List Value} {Q : World → Loop → Prop} (hf : E.ev fo = .func (.func gf) #[] cap.toArray) (hG : ∀ args w, (callFunc gf args).run P w = .ok (.enter gf args) w)
    (h : Ret P gf (.func (.yield (w.heap.size + 1)) #[] #[] :: cap).toArray ((w.alloc (.deferred (some []))).alloc (.loop { state := .ready, pending := none, fn := f, tmps := tmpsOf N E, params := ps, assign, body, defers := w.heap.size }))
      fun _ w2 => ∃ r, w2.heap[w.heap.size + 1]? = some (.loop r) ∧ r.state ≠ .busy ∧ r.pending = none ∧ Q w2 r)
    (h2 : ∀ w2 r, Q w2 r → w2.heap[w.heap.size + 1]? = some (.loop r) → Run P f N none k E (⟨.collected w.heap.size, #[]⟩ :: D) (w2.putObj (w.heap.size + 1) (.loop { r with state := .exhausted })) R) :
    Run P f N none (.code (.rangeFunc fo ps assign body) :: k) E D w R := by
  obtain ⟨v, w2, ⟨r, g1, g2, g3, g4⟩, s1⟩ := h.call
  obtain ⟨o, w3, hq, s2⟩ := h2 w2 r g4 g1
  refine ⟨o, w3, hq, fun kind cs tmps hc ht => ?_⟩
  have hu := ht.unique
  obtain ⟨m, s3, hT⟩ := s2 kind cs tmps hc ht
  obtain ⟨fr', s4, hm', hd, hk, hf', fn, hfn, hres⟩ := s1 .normal (Fm f none kind tmps (.inRangeFunc (w.heap.size + 1) :: k) (⟨.collected w.heap.size, #[]⟩ :: D) .run :: cs)
  have st2 : step P (lone fr' (Fm f none kind tmps (.inRangeFunc (w.heap.size + 1) :: k) (⟨.collected w.heap.size, #[]⟩ :: D) .run :: cs) w2) = .next (lone (Fm f none kind tmps (.endRangeFunc (w.heap.size + 1) :: k) (⟨.collected w.heap.size, #[]⟩ :: D) .run) cs w2) :=
    step_lone_go (by simp [stepG, unwind, doReturn, hm', hd, hk, hf', hfn, hres, Frame.finish])
  have st3 : step P (lone (Fm f none kind tmps (.endRangeFunc (w.heap.size + 1) :: k) (⟨.collected w.heap.size, #[]⟩ :: D) .run) cs w2) = .next (lone (Fm f none kind tmps k (⟨.collected w.heap.size, #[]⟩ :: D) .run) cs (w2.putObj (w.heap.size + 1) (.loop { r with state := .exhausted }))) :=
    step_lone_go (by
      have he := run_endLoop (P := P) g1 g2
      simp [stepG, stepG.exec, he, g3])
  refine ⟨m, .head (step_lone_go ?_) (s4.trans (.head st2 (.head st3 s3))), hT⟩
  have hev : (Fm f none kind tmps (.inRangeFunc (w.heap.size + 1) :: k) (⟨.collected w.heap.size, #[]⟩ :: D) .run).eval fo = .func (.func gf) #[] cap.toArray := by rw [frame_eval, ht.eval, hf]
  rw [← hu]
  have he := run_enterLoop_outer (P := P) (w := w) f tmps ps assign body
  have hconst : ∀ (fr : Frame) (v : Value), fr.eval (.const v) = v := fun _ _ => rfl
  simp [stepG, stepG.exec, he, stepG.apply, resolve, hev, hconst, Deferred.ofValue, invoke, hG]
theorem unw_collected {mode : FrameMode} {b : Nat} {ds : List Deferred} (hm : mode ≠ .run) (hb : w.heap[b]? = some (.deferred (some []))) (h : Unw P f N mode E ds (w.putObj b (.deferred none)) R) : Unw P f N mode E (⟨.collected b, #[]⟩ :: ds) w R := by
  obtain ⟨o, w', r, s⟩ := h
  refine ⟨o, w', r, fun kind cs tmps todo ht => ?_⟩
  obtain ⟨fr, s2, hl⟩ := s kind cs tmps todo ht
  refine ⟨fr, .head (step_lone_go ?_) s2, hl⟩
  have ht := run_takeDeferred (P := P) hb
  cases mode with
  | run => exact absurd rfl hm
  | returning => simp [stepG, unwind, ht]
  | panicking ch => simp [stepG, unwind, ht]
theorem putObj_at {w : World} {l : Nat} {o : Obj} (h : l < w.heap.size) : (w.putObj l o).heap[l]? = some o ∧ Ext (fun k => k = l) w (w.putObj l o) ∧ (w.putObj l o).heap.size = w.heap.size :=
  ⟨World.putObj_heap_same h, ⟨rfl, rfl, rfl, by simp [World.putObj], fun k _ hk => World.putObj_heap_other (fun e => hk e)⟩, by simp [World.putObj]⟩
theorem loop_lt {w : World} {l : Nat} {r : Loop} (h : w.heap[l]? = some (.loop r)) : l < w.heap.size := (Array.getElem?_eq_some_iff.1 h).1
theorem beginRound' (hL : w.heap[l]? = some (.loop r)) (hr : r.state = .ready) (h : ∀ w', w'.heap[l]? = some (.loop { r with state := .busy }) → Ext (fun k => k = l) w w' → w'.heap.size = w.heap.size → Run P f N (some l) k E D w' R) : Run P f N (some l) (.beginRound :: k) E D w R :=
  beginRound hL hr (let q := putObj_at (o := .loop { r with state := .busy }) (loop_lt hL); h _ q.1 q.2.1 q.2.2)
theorem endRound' (hL : w.heap[l]? = some (.loop { r with state := .busy })) (h1 : r.state = .ready) (h2 : r.pending = none) (h : ∀ w', w'.heap[l]? = some (.loop r) → Ext (fun k => k = l) w w' → w'.heap.size = w.heap.size → R (.ret (.bool true)) w') : Run P f N (some l) [] E D w R := by
  refine endRound hL ?_
  have e : ({ ({ r with state := .busy } : Loop) with state := .ready, pending := none } : Loop) = r := by cases r; simp_all
  rw [e]
  have q := putObj_at (o := .loop r) (loop_lt hL)
  exact h _ q.1 q.2.1 q.2.2
theorem rangeFunc' {fo : Operand} {ps : Array Tmp} {assign body : Code} {gf : FuncId} {cap : List Value} {Q : World → Prop} (hf : E.ev fo = .func (.func gf) #[] cap.toArray) (hG : ∀ args w, (callFunc gf args).run P w = .ok (.enter gf args) w) (hl : (E.l.all fun p => Nat.blt p.1 N) = true) (hb : E.b = fun _ => undef)
    (h : ∀ (rec : Loop) (w1 : World) (T : Array Value), rec.state = .ready → rec.pending = none → rec.fn = f → rec.tmps = T → Rep N E T → rec.params = ps → rec.assign = assign → rec.body = body → w1.heap[w.heap.size + 1]? = some (.loop rec) → w1.heap[w.heap.size]? = some (.deferred (some [])) → Keep w w1 → w1.heap.size = w.heap.size + 2 →
      Ret P gf (.func (.yield (w.heap.size + 1)) #[] #[] :: cap).toArray w1 fun _ w2 => (∃ r, w2.heap[w.heap.size + 1]? = some (.loop r) ∧ r.state ≠ .busy ∧ r.pending = none) ∧ Q w2)
    (h2 : ∀ w2 w3, Q w2 → Ext (fun k => k = w.heap.size + 1) w2 w3 → w3.heap.size = w2.heap.size → Run P f N none k E (⟨.collected w.heap.size, #[]⟩ :: D) w3 R) :
    Run P f N none (.code (.rangeFunc fo ps assign body) :: k) E D w R := by
  refine rangeFunc (Q := fun w2 _ => Q w2) hf hG ?_ ?_
  · have hsz : (w.alloc (.deferred (some []))).heap.size = w.heap.size + 1 := by simp
    have h1 := heap_alloc_new (w.alloc (.deferred (some []))) (.loop { state := .ready, pending := none, fn := f, tmps := tmpsOf N E, params := ps, assign, body, defers := w.heap.size })
    rw [hsz] at h1
    have h2 := heap_alloc_old (w.alloc (.deferred (some []))) (.loop { state := .ready, pending := none, fn := f, tmps := tmpsOf N E, params := ps, assign, body, defers := w.heap.size }) (show w.heap.size < _ by rw [hsz]; omega)
    rw [heap_alloc_new w] at h2
    refine (h _ _ (tmpsOf N E) rfl rfl rfl rfl (Rep.of hl hb) rfl rfl rfl h1 h2 ((Keep.alloc w _).trans (Keep.alloc _ _)) (by simp)).mono ?_
    rintro v w2 ⟨⟨r, g1, g2, g3⟩, g4⟩
    exact ⟨r, g1, g2, g3, g4⟩
  · intro w2 r hq hL
    have q := putObj_at (o := .loop { r with state := .exhausted }) (loop_lt hL)
    exact h2 w2 _ hq q.2.1 q.2.2
theorem fold2 (T : Array Value) (p q : Nat) (a b : Value) : (#[p, q].zip [a, b].toArray).foldl (fun tmps (t, a) => tmps.setIfInBounds t a) T = (T.setIfInBounds p a).setIfInBounds q b := by simp
theorem fold1 (T : Array Value) (p : Nat) (a : Value) : (#[p].zip [a].toArray).foldl (fun tmps (t, a) => tmps.setIfInBounds t a) T = T.setIfInBounds p a := by simp
theorem unwT2 {fn : Func} {t1 t2 : Tmp} {v1 v2 : Value} (hf : P.funcs[f]? = some fn) (hr : fn.results = #[.tmp t1, .tmp t2]) (h1 : E.ev (.tmp t1) = v1) (h2 : E.ev (.tmp t2) = v2) (h : R (.ret (.tuple #[v1, v2])) w) : Unw P f N .returning E [] w R :=
  unw_ret hf (fun tmps ht => by rw [results_tmp2 hr, ht.at_ t1, ht.at_ t2, ← h1, ← h2]; rfl) h
theorem unwT1 {fn : Func} {t : Tmp} {v : Value} (hf : P.funcs[f]? = some fn) (hr : fn.results = #[.tmp t]) (hv : E.ev (.tmp t) = v) (h : R (.ret v) w) : Unw P f N .returning E [] w R :=
  unw_ret hf (fun tmps ht => by rw [results_tmp hr, ht.at_ t, ← hv]; rfl) h
theorem collected' {mode : FrameMode} {b : Nat} {ds : List Deferred} (hm : mode ≠ .run) (hb : w.heap[b]? = some (.deferred (some []))) (h : ∀ w', Ext (fun k => k = b) w w' → w'.heap.size = w.heap.size → Unw P f N mode E ds w' R) : Unw P f N mode E (⟨.collected b, #[]⟩ :: ds) w R :=
  unw_collected hm hb (let q := putObj_at (o := .deferred none) (Array.getElem?_eq_some_iff.1 hb).1; h _ q.2.1 q.2.2)
end
end Go.Proofs.Ytgfficbkajcdpaa.X

namespace Go.Proofs.Ytgfficbkajcdpaa.X
open Go
set_option linter.unusedVariables false
set_option linter.unusedSimpArgs false

/-- What lies below B and in T stands. -/
def Agree (T : Nat → Prop) (B : Nat) (w w' : World) : Prop := Ext (fun k => B ≤ k ∧ ¬ T k) w w'
theorem Agree.refl (T : Nat → Prop) (B : Nat) (w : World) : Agree T B w w := Ext.refl _ w
theorem Agree.trans {T : Nat → Prop} {B : Nat} {a b c : World} (h : Agree T B a b) (h' : Agree T B b c) : Agree T B a c := Ext.trans h h' (fun _ _ x => x) (fun _ _ x => x)
theorem Agree.of_ext {T U : Nat → Prop} {B : Nat} {w w' : World} (h : Ext U w w') (hU : ∀ k, k < w.heap.size → U k → B ≤ k ∧ ¬ T k) : Agree T B w w' := h.mono hU
theorem Agree.of_keep {T : Nat → Prop} {B : Nat} {w w' : World} (h : Keep w w') : Agree T B w w' := h.mono fun _ _ h => h.elim
theorem Agree.sub {T U : Nat → Prop} {B : Nat} {w w' : World} (h : Agree T B w w') (hU : ∀ k, U k → T k) : Agree U B w w' := Ext.mono h fun k _ hk => ⟨hk.1, fun hu => hk.2 (hU k hu)⟩
theorem Agree.blk {T : Nat → Prop} {B : Nat} {w w' : World} (h : Agree T B w w') {b : Nat} {cs : List Value} {e : TypeId} (hb : Blk w b cs e) (hT : T b) : Blk w' b cs e := hb.ext h (fun x => x.2 hT)
theorem Agree.size {T : Nat → Prop} {B : Nat} {w w' : World} (h : Agree T B w w') : w.heap.size ≤ w'.heap.size := Ext.size h

section
variable {α : Type} (P : Program) (ev : α → Value) (z : α)
def hdV (xs : List α) : Value := .tuple #[ev (xs.headD z), .bool (!xs.isEmpty)]
/-- p, asked by nx, tells xs. -/
def Cur (nx : FuncId) (B : Nat) (T : Nat → Prop) (p : Value) (xs : List α) (w : World) : Prop :=
  ∃ I : List α → World → Prop, I xs w ∧ (∀ xs w w', I xs w → Agree T B w w' → I xs w') ∧ (∀ xs w, I xs w → Ret P nx #[p] w fun r w' => r = hdV ev z xs ∧ Ext T w w' ∧ I xs.tail w')
/-- fv, called, tells xs (till it tells nothing). -/
def Stp (B : Nat) (T : Nat → Prop) (fv : Value) (xs : List α) (w : World) : Prop :=
  ∃ I : List α → World → Prop, I xs w ∧ (∀ xs w w', I xs w → Agree T B w w' → I xs w') ∧ (∀ xs w, I xs w → YC P fv [] w fun r w' => r = hdV ev z xs ∧ Ext T w w' ∧ (xs ≠ [] → I xs.tail w'))
end
section
variable {α : Type} {P : Program} {ev : α → Value} {z : α} {nx B : Nat} {T : Nat → Prop} {p fv : Value} {xs : List α} {w w' : World}
theorem Cur.agree (h : Cur P ev z nx B T p xs w) (ha : Agree T B w w') : Cur P ev z nx B T p xs w' := by
  obtain ⟨I, h1, h2, h3⟩ := h
  exact ⟨I, h2 _ _ _ h1 ha, h2, h3⟩
theorem Cur.next (h : Cur P ev z nx B T p xs w) : Ret P nx #[p] w fun r w' => r = hdV ev z xs ∧ Ext T w w' ∧ Cur P ev z nx B T p xs.tail w' := by
  obtain ⟨I, h1, h2, h3⟩ := h
  exact (h3 _ _ h1).mono fun r w' ⟨a, b, c⟩ => ⟨a, b, I, c, h2, h3⟩
theorem Cur.ext (h : Cur P ev z nx B T p xs w) {U : Nat → Prop} (x : Ext U w w') (hU : ∀ k, k < w.heap.size → U k → B ≤ k ∧ ¬ T k) : Cur P ev z nx B T p xs w' := h.agree (Agree.of_ext x hU)
theorem Cur.keep (h : Cur P ev z nx B T p xs w) (x : Keep w w') : Cur P ev z nx B T p xs w' := h.agree (Agree.of_keep x)
theorem Stp.agree (h : Stp P ev z B T fv xs w) (ha : Agree T B w w') : Stp P ev z B T fv xs w' := by
  obtain ⟨I, h1, h2, h3⟩ := h
  exact ⟨I, h2 _ _ _ h1 ha, h2, h3⟩
theorem Stp.call (h : Stp P ev z B T fv xs w) : YC P fv [] w fun r w' => r = hdV ev z xs ∧ Ext T w w' ∧ (xs ≠ [] → Stp P ev z B T fv xs.tail w') := by
  obtain ⟨I, h1, h2, h3⟩ := h
  exact (h3 _ _ h1).mono fun r w' ⟨a, b, c⟩ => ⟨a, b, fun hn => ⟨I, c hn, h2, h3⟩⟩
theorem Cur.wide (h : Cur P ev z nx B T p xs w) {U : Nat → Prop} (hU : ∀ k, T k → U k) : Cur P ev z nx B U p xs w := by
  obtain ⟨I, h1, h2, h3⟩ := h
  exact ⟨I, h1, fun xs w w' hi ha => h2 xs w w' hi (ha.sub hU), fun xs w hi => (h3 xs w hi).mono fun r w' ⟨a, b, c⟩ => ⟨a, b.mono fun k _ hk => hU k hk, c⟩⟩
theorem Stp.wide (h : Stp P ev z B T fv xs w) {U : Nat → Prop} (hU : ∀ k, T k → U k) : Stp P ev z B U fv xs w := by
  obtain ⟨I, h1, h2, h3⟩ := h
  exact ⟨I, h1, fun xs w w' hi ha => h2 xs w w' hi (ha.sub hU), fun xs w hi => (h3 xs w hi).mono fun r w' ⟨a, b, c⟩ => ⟨a, b.mono fun k _ hk => hU k hk, c⟩⟩
/-- The cursor of a step: its struct in block bm. over: what it is when it told nothing. -/
theorem Cur.made {bm : Nat} {e : TypeId} (h : Stp P ev z B T fv xs w) (hb : Blk w bm [fv, .bool false] e) (hBm : B ≤ bm) (hT : ¬ T bm) (hTb : ∀ k, T k → k < w.heap.size)
    (hover : ∀ w, Blk w bm [fv, .bool true] e → Ret P nx #[.pointer (some ⟨bm, 0, none⟩)] w fun r w' => r = hdV ev z [] ∧ Keep w w')
    (hstep : ∀ (xs : List α) (w : World) (R : World → Prop), (∀ k, T k → k < w.heap.size) → Blk w bm [fv, .bool false] e → (∀ wa, Keep w wa → YC P fv [] wa fun r wc => r = hdV ev z xs ∧ Ext T wa wc ∧ R wc) →
      Ret P nx #[.pointer (some ⟨bm, 0, none⟩)] w fun r w' => r = hdV ev z xs ∧ (∃ wc, R wc ∧ Ext T w wc ∧ Ext (fun k => k = bm ∨ w.heap.size ≤ k) wc w') ∧ Blk w' bm [fv, .bool xs.isEmpty] e) :
    Cur P ev z nx B (fun k => T k ∨ k = bm) (.pointer (some ⟨bm, 0, none⟩)) xs w := by
  refine ⟨fun xs w => ((Stp P ev z B T fv xs w ∧ Blk w bm [fv, .bool false] e) ∨ (xs = [] ∧ Blk w bm [fv, .bool true] e)) ∧ ∀ k, T k → k < w.heap.size, ⟨.inl ⟨h, hb⟩, hTb⟩, ?_, ?_⟩
  · rintro xs w w' ⟨hi, hTb⟩ ha
    have ha1 := ha.sub (U := T) fun k hk => .inl hk
    have hz := ha.size
    refine ⟨?_, fun k hk => by have := hTb k hk; omega⟩
    rcases hi with ⟨h1, h2⟩ | ⟨h1, h2⟩
    · exact .inl ⟨h1.agree ha1, ha.blk h2 (.inr rfl)⟩
    · exact .inr ⟨h1, ha.blk h2 (.inr rfl)⟩
  · rintro xs w ⟨hi, hTb⟩
    rcases hi with ⟨h1, h2⟩ | ⟨rfl, h2⟩
    · have hlt := h2.lt
      refine (hstep xs w (fun wc => xs ≠ [] → Stp P ev z B T fv xs.tail wc) hTb h2 fun wa ka => (h1.agree (Agree.of_keep ka)).call).mono ?_
      rintro r w' ⟨rfl, ⟨wc, hR, hx1, hx2⟩, hB'⟩
      have hz := Nat.le_trans hx1.size hx2.size
      refine ⟨rfl, Ext.trans hx1 hx2 (fun _ _ x => .inl x) (fun k hk x => x.elim .inr fun x => by omega), ?_, fun k hk => by have := hTb k hk; omega⟩
      cases xs with
      | nil => exact .inr ⟨rfl, hB'⟩
      | cons x xs => exact .inl ⟨(hR (by simp)).agree (Agree.of_ext hx2 fun k _ hk => hk.elim (fun e => by rw [e]; exact ⟨hBm, hT⟩) (fun e => ⟨by omega, fun ht => by have := hTb k ht; omega⟩)), hB'⟩
    · refine (hover w h2).mono ?_
      rintro r w' ⟨rfl, hk⟩
      have hz := hk.size
      exact ⟨rfl, hk.mono fun _ _ h => h.elim, .inr ⟨rfl, h2.keep hk⟩, fun k ht => by have := hTb k ht; omega⟩
/-- A cursor that tells nothing. -/
theorem Cur.none {bm : Nat} {e : TypeId} (hb : Blk w bm [fv, .bool true] e)
    (hover : ∀ w, Blk w bm [fv, .bool true] e → Ret P nx #[.pointer (some ⟨bm, 0, none⟩)] w fun r w' => r = hdV ev z [] ∧ Keep w w') :
    Cur P ev z nx B (fun k => k = bm) (.pointer (some ⟨bm, 0, none⟩)) [] w := by
  refine ⟨fun xs w => xs = [] ∧ Blk w bm [fv, .bool true] e, ⟨rfl, hb⟩, fun xs w w' h ha => ⟨h.1, ha.blk h.2 rfl⟩, ?_⟩
  rintro xs w ⟨rfl, h2⟩
  exact (hover w h2).mono fun r w' ⟨h1, hk⟩ => ⟨h1, hk.mono fun _ _ h => h.elim, rfl, h2.keep hk⟩
end

/-! ### elements: things (a byte that has a sign, and a number) -/
abbrev TH := Int × Int
abbrev evT (x : TH) : Value := .agg #[.int .i8 x.1, .int .i64 x.2]
def KTh : Kd TH := Kd.plain 2 (fun x => [.int .i8 x.1, .int .i64 x.2]) (fun _ => True) (fun _ => rfl) (fun _ u hu => by simp at hu; rcases hu with rfl | rfl <;> rfl)
theorem KTh_flat : Flat KTh := fun h => h
theorem KTh_R (lo hi : Nat) (w : World) (x : TH) : KTh.R lo hi w x [.int .i8 x.1, .int .i64 x.2] := ⟨rfl, trivial⟩
theorem repsT {w : World} (x : TH) : RepsV KTh w [x] [evT x] := ⟨⟨_, rfl, KTh_R 0 0 w x⟩, trivial⟩
section
variable {P : Program} {ρ : Operand → Value} {w : World} {dst : Option Tmp} {ty : TypeId} {pos : String} {aft : Array Edge} {g : Option (Nat × Bool)}
/-- Several cells stored somewhere in a block that is known whole. -/
theorem storeAtE {T : TypeId} {a x : Operand} {b i n : Nat} {cs vs : List Value} {e : TypeId} (hs : ∀ w, (sizeOf T).run P w = .ok n w) (hB : Blk w b cs e) (ha : ρ a = .pointer (some ⟨b, i, none⟩)) (hx : ρ x = .agg vs.toArray) (hn : vs.length = n) (hl : Nat.ble (i + n) cs.length = true) (h1 : ∀ v, v ∈ vs → v.oneCell' = true) :
    DoesE P ⟨none, .store T a x, ty, pos, aft, g⟩ ρ w fun _ w' => Blk w' b (cs.take i ++ vs ++ cs.drop (i + vs.length)) e ∧ Ext (fun k => k = b) w w' ∧ w'.heap.size = w.heap.size := by
  have hl := Nat.le_of_ble_eq_true hl
  have hst := run_storeCells_at P b i e vs 0 cs.toArray w hB (by simp; omega) h1
  simp only [Nat.add_zero] at hst
  have hB' : Blk (w.setRow b (cs.take i ++ vs ++ cs.drop (i + vs.length)).toArray) b (cs.take i ++ vs ++ cs.drop (i + vs.length)) e := by
    unfold Blk at hB ⊢
    simp only [World.setRow, Array.getElem?_modify, if_true, hB, Option.map_some]
  have hext : Ext (fun k => k = b) w (w.setRow b (cs.take i ++ vs ++ cs.drop (i + vs.length)).toArray) := ⟨rfl, rfl, rfl, by simp [World.setRow], fun k _ hk => by simp only [World.setRow, Array.getElem?_modify]; rw [if_neg (fun h => hk h.symm)]⟩
  refine (does_skip (w' := w.setRow b (cs.take i ++ vs ++ cs.drop (i + vs.length)).toArray) rfl ?_).e ⟨hB', hext, by simp [World.setRow]⟩
  simp only [execOp, ha, hx, Instr.storeAt, Instr.sureAddr, storeVar, Value.cells]
  simp [hs, hn, hst]
end
section
variable {P : Program} {f : FuncId} {N : Nat} {E : Env} {w : World} {R : Out → World → Prop}
theorem unwR2 {fn : Func} {r1 r2 : ResultVar} {v1 v2 : Value} (hf : P.funcs[f]? = some fn) (hr : fn.results = #[r1, r2]) (h1 : ResOk P E w r1 v1) (h2 : ResOk P E w r2 v2) (h : R (.ret (.tuple #[v1, v2])) w) : Unw P f N .returning E [] w R :=
  unw_ret hf (fun tmps ht => by
    rw [results_sem, hr]
    simp [h1.run ht, h2.run ht]) h
end
section
variable {P : Program} {ρ : Operand → Value} {w : World} {dst : Option Tmp} {ty : TypeId} {pos : String} {aft : Array Edge} {g : Option (Nat × Bool)}
theorem neIf0 {T T' : TypeId} {x : Operand} {ms : Array (String × TypeId)} (hT : P.underlying T = some (.interface ms)) (hx : ρ x = .nilIface) (hy : ρ (.const .nilIface) = .nilIface) : Does P ⟨dst, .binOp .neq T x (.const .nilIface) T', ty, pos, aft, g⟩ ρ w (.bool false) w :=
  does_run rfl (by
    have h1 := run_equal_nil_nil (P := P) w T (meths hT)
    simp only [execOp, hx, hy, binOp, eqGuard]
    simp [h1])
theorem neIf1 {T T' U : TypeId} {x : Operand} {v : Value} {ms : Array (String × TypeId)} (hT : P.underlying T = some (.interface ms)) (hx : ρ x = .iface U v) (hy : ρ (.const .nilIface) = .nilIface) : Does P ⟨dst, .binOp .neq T x (.const .nilIface) T', ty, pos, aft, g⟩ ρ w (.bool true) w :=
  does_run rfl (by
    have h1 := run_equal_held_nil (P := P) w T U v (meths hT)
    simp only [execOp, hx, hy, binOp, eqGuard]
    simp [h1])
theorem run_equalIn_fn1 (w : World) (d : Nat) {T : TypeId} {fn : Fn} {bs cs : Array Value} {ps rs : Array TypeId} {v : Bool} (hT : P.underlying T = some (.func ps rs v)) : (Op.equalIn (d + 1) T (.func fn bs cs) .nilFunc).run P w = .ok false w := by
  simp [Op.equalIn, run_underlying hT]
theorem run_equalIn_fn0 (w : World) (d : Nat) {T : TypeId} {ps rs : Array TypeId} {v : Bool} (hT : P.underlying T = some (.func ps rs v)) : (Op.equalIn (d + 1) T .nilFunc .nilFunc).run P w = .ok true w := by
  simp [Op.equalIn, run_underlying hT]
theorem eqFn1 {T T' : TypeId} {x : Operand} {fn : Fn} {bs cs : Array Value} {ps rs : Array TypeId} {v : Bool} (hT : P.underlying T = some (.func ps rs v)) (hx : ρ x = .func fn bs cs) (hy : ρ (.const .nilFunc) = .nilFunc) : Does P ⟨dst, .binOp .eql T x (.const .nilFunc) T', ty, pos, aft, g⟩ ρ w (.bool false) w :=
  does_run rfl (by
    have h1 : (Op.equal T (.func fn bs cs) .nilFunc).run P w = .ok false w := run_equalIn_fn1 w 9999 hT
    simp only [execOp, hx, hy, binOp, eqGuard]
    simp [h1])
theorem eqFn0 {T T' : TypeId} {x : Operand} {ps rs : Array TypeId} {v : Bool} (hT : P.underlying T = some (.func ps rs v)) (hx : ρ x = .nilFunc) (hy : ρ (.const .nilFunc) = .nilFunc) : Does P ⟨dst, .binOp .eql T x (.const .nilFunc) T', ty, pos, aft, g⟩ ρ w (.bool true) w :=
  does_run rfl (by
    have h1 : (Op.equal T .nilFunc .nilFunc).run P w = .ok true w := run_equalIn_fn0 w 9999 hT
    simp only [execOp, hx, hy, binOp, eqGuard]
    simp [h1])
end
/-- One cell. -/
theorem reps_1 {w : World} {v : Value} (h : v.oneCell' = true) (hc : v.cells = #[v]) : RepsV KR1 w [v] [v] := ⟨⟨[v], by rw [hc], rfl, h⟩, trivial⟩
theorem Mine.block {α : Type} {K : Kd α} (hF : Flat K) {e : TypeId} {S : Nat → Prop} {w : World} {v : Value} {xs : List α} (h : Mine K e S 0 0 w v xs) (hS : S w.heap.size) : ∃ b A c, S b ∧ b ≤ w.heap.size ∧ v = .slice A xs.length c ∧ xs.length ≤ c ∧ Sl K b (b + 1) w A xs.length xs := by
  obtain ⟨b, ho, hb⟩ := h
  have hlt : ∀ k, b = some k → k < w.heap.size := fun k hk => ho.lt k hk
  obtain ⟨b0, h0, h1, h2⟩ : ∃ b0, S b0 ∧ b0 ≤ w.heap.size ∧ ∀ k, b = some k → k = b0 := by
    cases b with
    | none => exact ⟨w.heap.size, hS, Nat.le_refl _, fun k h => by cases h⟩
    | some b => exact ⟨b, hb b rfl, Nat.le_of_lt (hlt b rfl), fun k h => by cases h; rfl⟩
  obtain ⟨A, c, h3, h4, h5⟩ := (ho.flat hF (lo' := b0) (hi' := b0 + 1)).sl (fun k hk => by have := h2 k hk; omega)
  exact ⟨b0, A, c, h0, h1, h3, h4, h5⟩
/-- 'c.Next()', c an interface value. -/
theorem invokeE {P : Program} {ρ : Operand → Value} {w : World} {dst : Option Tmp} {ty : TypeId} {pos : String} {aft : Array Edge} {g : Option (Nat × Bool)} {x : Operand} {name : String} {TY : TypeId} {G : FuncId} {p : Value} {tys : Array TypeId} {R' : Value → World → Prop} (hx : ρ x = .iface TY p)
    (hm : ∀ w, (method (P.types.size + Made.depth) TY p name).run P w = .ok (G, p) w) (hc : Ret P G #[p] w R') (hG : ∀ args w, (callFunc G args).run P w = .ok (.enter G args) w) :
    DoesE P ⟨dst, .call ⟨.invoke x name, #[], tys⟩, ty, pos, aft, g⟩ ρ w R' := by
  obtain ⟨v, w', hr, hs⟩ := hc.call
  refine (does_enter (g := G) (args := #[p]) rfl ?_ hs).e hr
  simp [execOp, resolve, invoke, hx, callMethod, hm, hG]
end Go.Proofs.Ytgfficbkajcdpaa.X

namespace Go.Proofs.Ytgfficbkajcdpaa
open Go Go.Proofs.Ytgfficbkajcdpaa.X
set_option linter.unusedVariables false
set_option linter.unusedSimpArgs false
theorem ETh : ElemInfo Try.prog 29 2 16 := ElemInfo.of (z := .agg #[.int .i8 0, .int .i64 0]) (by kernel_rfl) rfl rfl rfl
theorem EI : ElemInfo Try.prog 3 1 8 := ElemInfo.of (z := .int .i64 0) (by kernel_rfl) rfl rfl rfl
-- f98 "(*pedigree/merge.made[pedigree/pedigreeref09.Thing]).Next" params [84] results [29, 4] -> [(ResultVar.
set_option maxHeartbeats 4000000 in
set_option maxRecDepth 100000 in
theorem next_over (fv : Value) (bm : Nat) (w : World) (hB : Blk w bm [fv, .bool true] 87) : Ret Try.prog 98 #[.pointer (some ⟨bm, 0, none⟩)] w fun r w' => r = hdV evT (0, 0) [] ∧ Keep w w' := by
  refine X.enter Try.func98 rfl Try.ntmps98 rfl ?_
  refine X.seq ?_
  refine X.region ?_
  refine X.opE X.wN rfl (X.allocE Try.zeroValue29 rfl) ?_
  rintro _ w1 ⟨rfl, hB1, hk1, hz1⟩
  refine X.opw X.wN rfl (X.assign rfl) ?_
  refine X.opsEnd ?_
  refine X.seq ?_
  refine X.seq ?_
  refine X.region ?_
  refine X.opw X.wN rfl (X.move rfl) ?_
  refine X.opw X.wN rfl (X.nilCk rfl) ?_
  refine X.opw X.wN rfl (X.fldB (j := 1) Try.underlying87 rfl rfl Try.sizeOf4 rfl) ?_
  refine X.opw X.wN rfl (X.load1B Try.isAgg4 (hB.keep hk1) rfl rfl) ?_
  refine X.opsEnd ?_
  refine X.condB rfl (fun hc => ?_) (fun hc => ?_)
  · refine X.seq ?_
    refine X.region ?_
    refine X.opw X.wN rfl (X.loadNB Try.isAgg29 Try.sizeOf29 hB1 rfl rfl rfl) ?_
    refine X.opE X.wN rfl (X.storeNE Try.sizeOf29 hB1 rfl rfl rfl rfl (fun u hu => by simp at hu; rcases hu with rfl | rfl <;> rfl)) ?_
    rintro _ w2 ⟨hB2, hx2, hz2⟩
    refine X.opw X.wN rfl (X.assign rfl) ?_
    refine X.opsEnd ?_
    refine X.ret_unw (X.unwR2 Try.func98 Try.results98 (X.ResOk.cell rfl (X.lvN Try.isAgg29 Try.sizeOf29 hB2 rfl)) (show X.ResOk _ _ _ (.tmp 3) (.bool _) from rfl) ?_)
    exact ⟨rfl, (hk1.step hx2 (by intros; (try simp only [] at *); omega))⟩
  · cases hc
-- f98 "(*pedigree/merge.made[pedigree/pedigreeref09.Thing]).Next" params [84] results [29, 4] -> [(ResultVar.
set_option maxHeartbeats 4000000 in
set_option maxRecDepth 100000 in
theorem next_step (fv : Value) (bm : Nat) (T : Nat → Prop) (hTm : ¬ T bm) (xs : List _) (w : World) (R : World → Prop) (hTb : ∀ k, T k → k < w.heap.size) (hB : Blk w bm [fv, .bool false] 87) (hcall : ∀ wa, Keep w wa → YC Try.prog fv [] wa fun r wc => r = hdV evT (0, 0) xs ∧ Ext T wa wc ∧ R wc) :
    Ret Try.prog 98 #[.pointer (some ⟨bm, 0, none⟩)] w fun r w' => r = hdV evT (0, 0) xs ∧ (∃ wc, R wc ∧ Ext T w wc ∧ Ext (fun k => k = bm ∨ w.heap.size ≤ k) wc w') ∧ Blk w' bm [fv, .bool xs.isEmpty] 87 := by
  have hbm := hB.lt
  refine X.enter Try.func98 rfl Try.ntmps98 rfl ?_
  refine X.seq ?_
  refine X.region ?_
  refine X.opE X.wN rfl (X.allocE Try.zeroValue29 rfl) ?_
  rintro _ w1 ⟨rfl, hB1, hk1, hz1⟩
  refine X.opw X.wN rfl (X.assign rfl) ?_
  refine X.opsEnd ?_
  refine X.seq ?_
  refine X.seq ?_
  refine X.region ?_
  refine X.opw X.wN rfl (X.move rfl) ?_
  refine X.opw X.wN rfl (X.nilCk rfl) ?_
  refine X.opw X.wN rfl (X.fldB (j := 1) Try.underlying87 rfl rfl Try.sizeOf4 rfl) ?_
  refine X.opw X.wN rfl (X.load1B Try.isAgg4 (hB.keep hk1) rfl rfl) ?_
  refine X.opsEnd ?_
  refine X.condB rfl (fun hc => ?_) (fun hc => ?_)
  · cases hc
  · refine X.skip ?_
    refine X.seq ?_
    refine X.seq ?_
    refine X.region ?_
    refine X.opw X.wN rfl (X.move rfl) ?_
    refine X.opw X.wN rfl (X.nilCk rfl) ?_
    refine X.opw X.wN rfl (X.fldB (j := 0) Try.underlying87 rfl rfl Try.sizeOf80 rfl) ?_
    refine X.opw X.wN rfl (X.load1B Try.isAgg80 (hB.keep hk1) rfl rfl) ?_
    refine X.opE X.wN rfl ((hcall _ hk1) _ _ _ _ _ _ _ _ _ rfl rfl) ?_
    rintro _ w2 ⟨rfl, hx2, hR2⟩
    have hx2' := hx2.size
    refine X.opw X.wN rfl (X.move rfl) ?_
    refine X.opw X.wN rfl (X.extr rfl rfl) ?_
    refine X.opw X.wN rfl (X.extr rfl rfl) ?_
    refine X.opE X.wN rfl (X.storeNE Try.sizeOf29 (hB1.ext hx2 (fun h => by have := hTb _ h; omega)) rfl rfl rfl rfl (fun u hu => by simp at hu; rcases hu with rfl | rfl <;> rfl)) ?_
    rintro _ w3 ⟨hB3, hx3, hz3⟩
    refine X.opw X.wN rfl (X.assign (v := .bool _) rfl) ?_
    refine X.opsEnd ?_
    refine X.seq ?_
    refine X.region ?_
    refine X.opw X.wN rfl (X.move (v := .bool _) rfl) ?_
    refine X.opw X.wN rfl (X.not_ rfl) ?_
    refine X.opsEnd ?_
    refine X.condB rfl (fun hc2 => ?_) (fun hc2 => ?_)
    · refine X.seq ?_
      refine X.region ?_
      refine X.opE X.wN rfl (X.allocE Try.zeroValue29 rfl) ?_
      rintro _ w4 ⟨rfl, hB4, hk4, hz4⟩
      refine X.opsEnd ?_
      refine X.regionD (fun k => k = bm) 5 (by kernel_rfl) (by kernel_rfl) (fun w5 hk5 hz5 => ?_)
      refine X.dTake 0 rfl (by kernel_rfl) (by kernel_rfl) (by kernel_rfl) (X.dwN rfl) (fun w' hk' => X.move rfl) ?_
      refine X.dTake 1 rfl (by kernel_rfl) (by kernel_rfl) (by kernel_rfl) (X.dwN rfl) (fun w' hk' => X.loadNB Try.isAgg29 Try.sizeOf29 ((hB4.keep hk5).ext hk' (by intros; (try simp only []); omega)) rfl rfl rfl) ?_
      refine X.dTake 2 rfl (by kernel_rfl) (by kernel_rfl) (by kernel_rfl) (X.dwN rfl) (fun w' hk' => X.nilCk rfl) ?_
      refine X.dTake 3 rfl (by kernel_rfl) (by kernel_rfl) (by kernel_rfl) (X.dwN rfl) (fun w' hk' => X.fldB (j := 1) Try.underlying87 rfl rfl Try.sizeOf4 rfl) ?_
      refine X.dE (i := 4) (by kernel_rfl) rfl (X.dwN rfl) (X.storeE Try.sizeOf4 ((((hB.keep hk1).ext hx2 hTm).ext hx3 (by intros; (try simp only []); omega)).keep (hk4.trans hk5)) rfl rfl rfl rfl) (by rintro _ w6 ⟨hB6, hx6, hz6⟩ _; exact hx6) ?_
      rintro _ w6 ⟨hB6, hx6, hz6⟩
      refine X.dE (i := 5) (by kernel_rfl) rfl (X.dwN rfl) (X.storeNE Try.sizeOf29 ((hB3.keep (hk4.trans hk5)).ext hx6 (by intros; (try simp only []); omega)) rfl rfl rfl rfl (fun u hu => by simp at hu; rcases hu with rfl | rfl <;> rfl)) (fun _ _ _ h => absurd h (by decide)) ?_
      rintro _ w7 ⟨hB7, hx7, hz7⟩
      refine X.dEnd (by kernel_rfl) ?_
      refine X.seq ?_
      refine X.region ?_
      refine X.opw X.wN rfl (X.loadNB Try.isAgg29 Try.sizeOf29 hB7 rfl rfl rfl) ?_
      refine X.opw X.wN rfl (X.move (v := .bool _) rfl) ?_
      refine X.opE X.wN rfl (X.storeNE Try.sizeOf29 hB7 rfl rfl rfl rfl (fun u hu => by simp at hu; rcases hu with rfl | rfl <;> rfl)) ?_
      rintro _ w8 ⟨hB8, hx8, hz8⟩
      refine X.opw X.wN rfl (X.assign (v := .bool _) rfl) ?_
      refine X.opsEnd ?_
      refine X.ret_unw (X.unwR2 Try.func98 Try.results98 (X.ResOk.cell rfl (X.lvN Try.isAgg29 Try.sizeOf29 hB8 rfl)) (show X.ResOk _ _ _ (.tmp 3) (.bool _) from rfl) ?_)
      obtain rfl : xs = [] := by simpa using hc2
      exact ⟨rfl, ⟨_, hR2, (Ext.trans (U := T) hk1 hx2 (fun _ _ h => h.elim) (fun _ _ h => h)), (Ext.andThen (Ext.andThen (Ext.andThen (Ext.andThen (Ext.andThen (Ext.andThen (Ext.refl (fun k => k = bm ∨ w.heap.size ≤ k) _) hx3 (by intro k h1 h2; first | exact h2.elim | omega | (simp only [] at *; omega))) hk4 (by intro k h1 h2; first | exact h2.elim | omega | (simp only [] at *; omega))) hk5 (by intro k h1 h2; first | exact h2.elim | omega | (simp only [] at *; omega))) hx6 (by intro k h1 h2; first | exact h2.elim | omega | (simp only [] at *; omega))) hx7 (by intro k h1 h2; first | exact h2.elim | omega | (simp only [] at *; omega))) hx8 (by intro k h1 h2; first | exact h2.elim | omega | (simp only [] at *; omega)))⟩, ((hB6.ext hx7 (by intros; (try simp only []); omega)).ext hx8 (by intros; (try simp only []); omega))⟩
    · refine X.skip ?_
      refine X.seq ?_
      refine X.region ?_
      refine X.opw X.wN rfl (X.loadNB Try.isAgg29 Try.sizeOf29 hB3 rfl rfl rfl) ?_
      refine X.opw X.wN rfl (X.move (v := .bool _) rfl) ?_
      refine X.opE X.wN rfl (X.storeNE Try.sizeOf29 hB3 rfl rfl rfl rfl (fun u hu => by simp at hu; rcases hu with rfl | rfl <;> rfl)) ?_
      rintro _ w9 ⟨hB9, hx9, hz9⟩
      refine X.opw X.wN rfl (X.assign (v := .bool _) rfl) ?_
      refine X.opsEnd ?_
      refine X.ret_unw (X.unwR2 Try.func98 Try.results98 (X.ResOk.cell rfl (X.lvN Try.isAgg29 Try.sizeOf29 hB9 rfl)) (show X.ResOk _ _ _ (.tmp 3) (.bool _) from rfl) ?_)
      cases xs with
      | nil => simp at hc2
      | cons x xs => exact ⟨rfl, ⟨_, hR2, (Ext.trans (U := T) hk1 hx2 (fun _ _ h => h.elim) (fun _ _ h => h)), (Ext.andThen (Ext.andThen (Ext.refl (fun k => k = bm ∨ w.heap.size ≤ k) _) hx3 (by intro k h1 h2; first | exact h2.elim | omega | (simp only [] at *; omega))) hx9 (by intro k h1 h2; first | exact h2.elim | omega | (simp only [] at *; omega)))⟩, ((((hB.keep hk1).ext hx2 hTm).ext hx3 (by intros; (try simp only []); omega)).ext hx9 (by intros; (try simp only []); omega))⟩
end Go.Proofs.Ytgfficbkajcdpaa
