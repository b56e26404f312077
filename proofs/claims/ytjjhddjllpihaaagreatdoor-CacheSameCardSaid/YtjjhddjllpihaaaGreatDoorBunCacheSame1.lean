/- Texts that the proof of CacheSame stands on, part 1. -/
import Derived.WalkKit
set_option maxHeartbeats 4000000
set_option maxRecDepth 100000
set_option linter.unusedSimpArgs false
namespace Go.Proofs.YtjjhddjllpihaaaGreatDoor
theorem Zl {P : Prop} (h : P := by kernel_rfl) : P := h
theorem Zz {P : Prop} (h : P := by omega) : P := h
theorem zq1 {P : Prop} (h : P := by first | (intro q g1 g2 g3; first | exact (g3 : False).elim | (have g3 : _ ∨ _ := g3; omega) | (have g3 : q = _ := g3; omega) | (have g3 : _ ≤ q ∧ _ := g3; omega) | (have g3 : _ ≤ q := g3; omega)) | (intro hh; first | exact (hh : False).elim | (have hh : _ ∨ _ := hh; omega) | (have hh : _ = _ := hh; omega) | (have hh : _ ≤ _ ∧ _ := hh; omega) | (have hh : _ ≤ _ := hh; omega)) | (intro q g1; first | exact (g1 : False).elim | (have g1 : _ ∨ _ := g1; omega) | (have g1 : q = _ := g1; omega) | (have g1 : _ ≤ q ∧ _ := g1; omega) | (have g1 : _ ≤ q := g1; omega)) | (intro q g1 g2; first | exact (g2 : False).elim | (have g2 : _ ∨ _ := g2; omega) | (have g2 : q = _ := g2; omega) | (have g2 : _ ≤ q ∧ _ := g2; omega) | (have g2 : _ ≤ q := g2; omega))) : P := h
theorem zq2 {P : Prop} (h : P := by first | (intros; (try simp only [] at *); omega) | (intro hh; (try simp only [] at hh); omega) | (intro q h1 h2; (try simp only [] at h1 h2); have := hlt q Zz; omega) | (intro hh; have hh : _ = _ := hh; subst hh; omega) | (intro q h1 h2; have h2 : q = _ := h2; subst h2; (try simp only [] at h1); omega) | (intro q h1 h2; (try simp only [] at h1 h2); omega) | (intro q h1 h2; have h2 : q = _ := h2; have := hlt q (by (try simp only [] at h1); omega); omega) | (intro q h1 h2; (try simp only [] at h1 h2); rcases h2 with h2 | h2 | h2 <;> first | omega | (subst h2; omega)) | (intro q h1 h2; (try simp only [] at h1 h2); rcases h2 with h2 | h2 | h2 | h2 <;> first | omega | (subst h2; omega))) : P := h
theorem zq3 {P : Prop} (h : P := by first | (intro q g1 g2 g3; first | exact (g3 : False).elim | (have g3 : q = _ := g3; omega) | (have g3 : _ ≤ q ∧ _ := g3; omega) | (have g3 : _ ≤ q := g3; omega)) | (intro hh; first | exact (hh : False).elim | (have hh : _ = _ := hh; omega) | (have hh : _ ≤ _ ∧ _ := hh; omega) | (have hh : _ ≤ _ := hh; omega)) | (intro q g1; first | exact (g1 : False).elim | (have g1 : q = _ := g1; omega) | (have g1 : _ ≤ q ∧ _ := g1; omega) | (have g1 : _ ≤ q := g1; omega)) | (intro q g1 g2; first | exact (g2 : False).elim | (have g2 : q = _ := g2; omega) | (have g2 : _ ≤ q ∧ _ := g2; omega) | (have g2 : _ ≤ q := g2; omega))) : P := h
theorem zq4 {P : Prop} (h : P := by intro q h1 h2; first | exact (h2 : False).elim | exact .inl h2 | exact .inr (.inl h2) | exact h2.elim .inl (fun h => .inr (.inr (h.imp id (fun h => by omega)))) | exact h2.elim .inl (fun h => .inr (.inr (h.elim (fun h => h.imp id (fun h => by omega)) (fun h => .inr Zz)))) | exact h2.elim .inl (fun h => .inr (.inr (.inl h))) | exact h2.elim .inl (fun h => .inr (.inr (h.imp id (fun h => by (try simp only [] at h); omega)))) | exact .inr (.inr (.inr Zz)) | exact h2 | (exfalso; (try simp only [] at *); omega)) : P := h
theorem zq5 {P : Prop} (h : P := by first | (intro q g1 g2 g3; first | exact (g3 : False).elim | (have := hDc q g3; omega) | (have := hTg q g3; omega) | (have g3 : q = _ := g3; omega) | (have g3 : _ ≤ q := g3; omega)) | (intro hh; first | exact (hh : False).elim | (have := hDc _ hh; omega) | (have := hTg _ hh; omega) | (have hh : _ = _ := hh; omega) | (have hh : _ ≤ _ := hh; omega)) | (intro q g1 g3; first | exact (g3 : False).elim | (have := hDc q g3; omega) | (have := hTg q g3; omega))) : P := h
theorem zq6 {P : Prop} (h : P := by intro q h1 h2; first | exact (h2 : False).elim | exact .inl h2 | exact h2.elim .inl (fun h => .inr (h.imp id (fun h => by omega))) | exact h2.elim .inl (fun h => .inr (.inl h)) | exact .inr (.inr Zz) | (exfalso; (try simp only [] at *); omega)) : P := h
theorem zq7 {P : Prop} (h : P := by intro q h1 h2; first | exact (h2 : False).elim | exact .inl h2 | exact h2.elim .inl (fun h => .inr (.inl h)) | (rw [hSI] at h2; exact .inr (h2.1.imp id (fun h => by omega))) | (exact .inr (.inr Zz)) | (exfalso; (try simp only [] at *); omega)) : P := h
theorem zq8 {P : Prop} (h : P := by intro q h1 h2; first | exact (h2 : False).elim | exact .inl h2 | exact .inr (.inl h2) | exact h2.elim .inl (fun h => .inr (.inr (.inl h))) | exact .inr (.inr (.inr Zz)) | exact .inr (.inr (.inr (by (try simp only [] at h2); omega)))) : P := h
theorem zq9 {P : Prop} (h : P := by intros; (try simp only []); first | omega | (intro hq; have hq2 := hq; (try simp only [] at hq2); omega) | (intro hq; rcases hq with hq | hq | hq <;> first | omega | (have := hSw _ hq; omega) | (have := hRl _ hq; omega))) : P := h
theorem zq10 {P : Prop} (h : P := by intro q h1 h2; first | exact (h2 : False).elim | exact h2.elim (fun e => by rw [e]; exact hS.tc) (fun h => hS.tr q h) | exact (by have h2 : q = _ := h2; rw [h2]; exact hS.tm) | (exfalso; have h2 : q = _ := h2; omega)) : P := h
theorem zq11 {P : Prop} (h : P := by first | (intros; (try simp only []); omega) | (intro h; have h : _ = bd := h; omega) | exact fun h => h.elim hSb (fun h => by omega) | exact fun h => h.elim (fun h => by (have := hSl _ h; omega)) (fun h => by omega)) : P := h
theorem zq12 {P : Prop} (h : P := by intro q h1 h2; first | exact (h2 : False).elim | ((try simp only [] at h2); omega) | (have h2 : q = _ := h2; subst h2; omega) | (rcases h2 with h2 | h2 | h2 <;> first | omega | (subst h2; omega))) : P := h
theorem zq13 {P : Prop} (h : P := by intro q h1 h2; first | exact (h2 : False).elim | exact h2.elim .inl (fun h => .inr (.inr (.inl h))) | exact (.inr (.inl h2)) | exact .inr (.inr (.inr (by have h2 : q = _ := h2; omega)))) : P := h
theorem zq14 {P : Prop} (h : P := by intro q h1 h2; first | exact (h2 : False).elim | exact h2 | (have h2 : q = _ := h2; omega) | (have h2 : _ ∨ _ := h2; rcases h2 with h2 | h2; exact h2; omega)) : P := h
theorem zq15 {P : Prop} (h : P := by (try simp only [List.length_append, List.length_cons, List.length_nil, List.length_take, List.length_drop, List.length_map, List.length_range]); omega) : P := h
theorem zq16 {P : Prop} (h : P := by intro q h1 h2; first | exact (h2 : False).elim | exact .inl h2 | exact .inr (.inl h2) | exact h2.elim (fun h => .inr (.inr h)) (fun h => by omega)) : P := h
theorem zq17 {P : Prop} (h : P := by intro q g1; first | exact (g1 : False).elim | (have g1 : q = _ := g1; omega) | (have g1 : _ ∨ _ := g1; omega) | (have g1 : _ ≤ q ∧ _ := g1; omega)) : P := h
theorem zq18 {P : Prop} (h : P := by intro k h1 h2; first | exact (h2 : False).elim | (have h2 : k = _ := h2; show _ ∧ _; omega) | (have h2 : _ ≤ k ∧ _ := h2; show _ ∧ _; omega)) : P := h
theorem zq19 {P : Prop} (h : P := by first | (intro hh; have hh : _ = _ := hh; omega) | (intro hh; have hh : _ ≤ _ ∧ _ := hh; omega) | (intro hh; have hh : _ ≤ _ := hh; omega)) : P := h
theorem zq20 {P : Prop} (h : P := by intro q h1 h2; first | exact (h2 : False).elim | ((try simp only [] at h2); omega) | (have h2 : q = _ := h2; subst h2; omega)) : P := h
theorem zq21 {P : Prop} (h : P := by first | exact hUs | exact hUb | (intro q g1 g2 g3; have g3 : q = _ := g3; omega) | (intro hh; have hh : _ = _ := hh; omega)) : P := h
theorem zq22 {P : Prop} (h : P := by intro k h1 h2; first | exact (h2 : False).elim | exact .inl h2 | exact .inr h2 | (exfalso; (try simp only [] at *); omega)) : P := h
theorem zq23 {P : Prop} (h : P := by intro q g1; first | (have g1 : q = _ := g1; omega) | (have g1 : _ ≤ q ∧ _ := g1; omega) | (have g1 : _ ≤ q := g1; omega)) : P := h
theorem zq24 {P : Prop} (h : P := by intro q g1; first | (have g1 : q = _ := g1; omega) | (have g1 : _ ∨ _ := g1; omega) | (have g1 : _ ≤ q ∧ _ := g1; omega)) : P := h
theorem zq25 {P : Prop} (h : P := by intro q g1; first | exact (g1 : False).elim | (have g1 : q = _ := g1; omega) | (have g1 : _ ≤ q ∧ _ := g1; omega)) : P := h
theorem zq26 {P : Prop} (h : P := by intro q h1 h2; first | exact (h2 : False).elim | exact h2 | (exfalso; have h2 : q = _ := h2; omega)) : P := h
theorem zq27 {P : Prop} (h : P := by first | rfl | exact congrArg (Value.int .i64) hcz | exact congrArg (Value.int .i64) hcz.symm) : P := h
theorem zq28 {P : Prop} (h : P := by intro q g1; first | (have g1 : q = _ := g1; omega) | (have g1 : _ ≤ q ∧ _ := g1; omega)) : P := h
theorem zq29 {P : Prop} (h : P := by intro q h1 h2; first | exact (h2 : False).elim | ((try simp only [] at h2); omega)) : P := h
theorem zq30 {P : Prop} (h : P := by intro k h1 h2; first | exact h2.elim | omega | (simp only [] at *; omega)) : P := h
theorem zq31 {P : Prop} (h : P := by intro k h; first | exact h.elim | ((try simp only [] at h); omega)) : P := h
theorem zq32 {P : Prop} (h : P := by intro q h1 h2; first | exact (h2 : False).elim | exact hTg q h2) : P := h
theorem zq33 {P : Prop} (h : P := by intro q h1 h2; first | exact (h2 : False).elim | exact h2) : P := h
theorem zq34 {P : Prop} (h : P := by intros; (try simp only [] at *); omega) : P := h
theorem zq35 {P : Prop} (h : P := by intro hh; have hh : _ = _ := hh; omega) : P := h
theorem zq36 {P : Prop} (h : P := by intros; (try simp only []); omega) : P := h
end Go.Proofs.YtjjhddjllpihaaaGreatDoor
namespace Go.Proofs.YtjjhddjllpihaaaGreatDoor.X
open Go
/-! ### 1. Slots -/
structure Env where
  l : List (Nat × Value)
  b : Nat → Value
def lk (b : Nat → Value) : List (Nat × Value) → Nat → Value
  | [], t => b t
  | (d, v) :: l, t => match Nat.beq d t with
    | true => v
    | false => lk b l t
def Env.at_ (E : Env) (t : Nat) : Value := lk E.b E.l t
def Env.ev (E : Env) : Operand → Value
  | .tmp t => lk E.b E.l t
  | .const v => v
  | .global g => .pointer (some ⟨g, 0, none⟩)
  | .func f => .func (.func f) #[] #[]
def Env.put (E : Env) : Option Tmp → Value → Env
  | some d, v => ⟨(d, v) :: E.l, E.b⟩
  | none, _ => E
structure Rep (N : Nat) (E : Env) (tmps : Array Value) : Prop where
  size : tmps.size = N
  at_ : ∀ t, tmps.getD t undef = E.at_ t
theorem Rep.put {N : Nat} {E : Env} {tmps : Array Value} (h : Rep N E tmps) (d : Tmp) (v : Value) (hd : d < N) : Rep N (E.put (some d) v) (tmps.setIfInBounds d v) := by
  refine ⟨by simp [h.size], fun t => ?_⟩
  have hs := h.size
  show _ = lk E.b ((d, v) :: E.l) t
  unfold lk
  by_cases e : d = t
  · subst e
    have : Nat.beq d d = true := Nat.beq_refl d
    rw [this]
    simp [Array.getD, hs, hd]
  · have : Nat.beq d t = false := by
      cases hb : Nat.beq d t
      · rfl
      · exact absurd (Nat.eq_of_beq_eq_true hb) e
    rw [this]
    have := h.at_ t
    show _ = lk E.b E.l t
    rw [show lk E.b E.l t = E.at_ t from rfl, ← this]
    simp only [Array.getD, Array.size_setIfInBounds]
    split
    · rename_i hlt
      exact Array.getElem_setIfInBounds_ne hlt e
    · rfl
def putT (tmps : Array Value) : Option Tmp → Value → Array Value
  | some d, v => tmps.setIfInBounds d v
  | none, _ => tmps
theorem Rep.put' {N : Nat} {E : Env} {tmps : Array Value} (h : Rep N E tmps) (dst : Option Tmp) (v : Value) (hd : ∀ d, dst = some d → d < N) :
    Rep N (E.put dst v) (putT tmps dst v) := by
  cases dst with
  | none => exact h
  | some d => exact h.put d v (hd d rfl)
def eval (tmps : Array Value) : Operand → Value
  | .tmp t => tmps.getD t undef
  | .const v => v
  | .global g => .pointer (some ⟨g, 0, none⟩)
  | .func f => .func (.func f) #[] #[]
theorem Rep.eval {N : Nat} {E : Env} {tmps : Array Value} (h : Rep N E tmps) : X.eval tmps = E.ev := by
  funext x
  cases x with
  | tmp t => exact h.at_ t
  | _ => rfl
theorem frame_eval (fr : Frame) : fr.eval = X.eval fr.tmps := by
  funext x
  cases x <;> rfl
/-! ### 2. What a run comes to -/
inductive Out where
  | ret (v : Value)
  | pan (chain : List PanicEntry)
def Left (P : Program) (f : FuncId) (kind : CallKind) (fr : Frame) (w : World) : Out → Prop
  | .ret v => fr.mode = .returning ∧ fr.defers = [] ∧ fr.kind = kind ∧ fr.fn = f ∧ ∃ fn, P.funcs[f]? = some fn ∧ (results fn fr.tmps).run P w = .ok v w
  | .pan chain => fr.mode = .panicking chain ∧ fr.defers = [] ∧ fr.kind = kind ∧ fr.fn = f ∧ ∃ fn, P.funcs[f]? = some fn
def Tgt (P : Program) (f : FuncId) (rd : Option Nat) (o : Out) (w : World) (kind : CallKind) (cs : List Frame) (m : Machine) : Prop :=
  match rd with
  | none => ∃ fr, m = lone fr cs w ∧ Left P f kind fr w o
  | some _ => ∀ c cs', cs = c :: cs' → m = lone (match o with | .ret v => c.finish v | .pan ch => c.raise ch) cs' w
abbrev Fm (f : FuncId) (rd : Option Nat) (kind : CallKind) (tmps : Array Value) (todo : List Item) (D : List Deferred) (mode : FrameMode) : Frame :=
  { fn := f, tmps, todo, defers := D, mode, kind, roundOf := rd }
def CsOk (rd : Option Nat) (kind : CallKind) (cs : List Frame) : Prop := rd ≠ none → kind = .normal ∧ cs ≠ []
def Run (P : Program) (f : FuncId) (N : Nat) (rd : Option Nat) (todo : List Item) (E : Env) (D : List Deferred) (w : World) (R : Out → World → Prop) : Prop :=
  ∀ kind cs tmps, CsOk rd kind cs → Rep N E tmps → ∃ o w', R o w' ∧ ∃ m, Steps P (lone (Fm f rd kind tmps todo D .run) cs w) m ∧ Tgt P f rd o w' kind cs m
def Unw (P : Program) (f : FuncId) (N : Nat) (mode : FrameMode) (E : Env) (D : List Deferred) (w : World) (R : Out → World → Prop) : Prop :=
  ∀ kind cs tmps todo, Rep N E tmps → ∃ o w', R o w' ∧ ∃ fr, Steps P (lone (Fm f none kind tmps todo D mode) cs w) (lone fr cs w') ∧ Left P f kind fr w' o
def Call (P : Program) (f : FuncId) (args : Array Value) (w : World) (R : Out → World → Prop) : Prop :=
  ∀ kind cs, ∃ o w', R o w' ∧ ∃ fr, Steps P (lone (Frame.enter P f args kind) cs w) (lone fr cs w') ∧ Left P f kind fr w' o
def Ret (P : Program) (f : FuncId) (args : Array Value) (w : World) (R : Value → World → Prop) : Prop :=
  Call P f args w fun o w' => match o with | .ret v => R v w' | .pan _ => False
theorem Run.mono {P : Program} {f : FuncId} {N : Nat} {rd : Option Nat} {todo : List Item} {E : Env} {D : List Deferred} {w : World} {R R' : Out → World → Prop}
    (h : Run P f N rd todo E D w R) (hr : ∀ o w', R o w' → R' o w') : Run P f N rd todo E D w R' :=
  fun kind cs tmps hc ht => let ⟨o, w', r, s⟩ := h kind cs tmps hc ht; ⟨o, w', hr _ _ r, s⟩
theorem Call.mono {P : Program} {f : FuncId} {args : Array Value} {w : World} {R R' : Out → World → Prop} (h : Call P f args w R) (hr : ∀ o w', R o w' → R' o w') : Call P f args w R' :=
  fun kind cs => let ⟨o, w', r, s⟩ := h kind cs; ⟨o, w', hr _ _ r, s⟩
theorem Ret.mono {P : Program} {f : FuncId} {args : Array Value} {w : World} {R R' : Value → World → Prop} (h : Ret P f args w R) (hr : ∀ v w', R v w' → R' v w') : Ret P f args w R' :=
  Call.mono h fun o w' => by cases o with | ret v => exact hr v w' | pan _ => exact id
theorem Ret.call {P : Program} {f : FuncId} {args : Array Value} {w : World} {R : Value → World → Prop} (h : Ret P f args w R) (kind : CallKind) (cs : List Frame) : ∃ v w', R v w' ∧ ∃ fr, Steps P (lone (Frame.enter P f args kind) cs w) (lone fr cs w') ∧ Left P f kind fr w' (.ret v) := by
  obtain ⟨o, w', r, s⟩ := h kind cs
  cases o with
  | ret v => exact ⟨v, w', r, s⟩
  | pan ch => exact r.elim
theorem Call.calls {P : Program} {f : FuncId} {args : Array Value} {w : World} {R : Out → World → Prop} (h : Call P f args w R) :
    Calls P f args w fun e w' => match e with | .returned v => R (.ret v) w' | .panicked ch => R (.pan ch) w' | .outgrown => False := by
  intro cs
  obtain ⟨o, w', r, fr, hs, hl⟩ := h .normal cs
  cases o with
  | ret v =>
    obtain ⟨h1, h2, h3, h4, fn, h5, h6⟩ := hl
    exact ⟨.returned v, w', fr, r, hs, h4, h1, h2, h3, fn, h4 ▸ h5, h6⟩
  | pan ch =>
    obtain ⟨h1, h2, h3, h4, fn, h5⟩ := hl
    exact ⟨.panicked ch, w', fr, r, hs, h4, h1, h2, fn, h4 ▸ h5⟩
theorem Ret.calls {P : Program} {f : FuncId} {args : Array Value} {w : World} {R : Value → World → Prop} (h : Ret P f args w R) :
    Calls P f args w fun e w' => ∃ v, e = .returned v ∧ R v w' :=
  (Call.calls h).mono fun e w' hr => by
    cases e with
    | returned v => exact ⟨v, rfl, hr⟩
    | panicked ch => exact hr.elim
    | outgrown => exact hr.elim
/-! ### 3. Steps of control -/
section
variable {P : Program} {f : FuncId} {N : Nat} {rd : Option Nat} {k : List Item} {E : Env} {D : List Deferred} {w : World} {R : Out → World → Prop}
theorem Run.of_step {todo todo' : List Item} (hs : ∀ kind cs tmps, Rep N E tmps → step P (lone (Fm f rd kind tmps todo D .run) cs w) = .next (lone (Fm f rd kind tmps todo' D .run) cs w))
    (h : Run P f N rd todo' E D w R) : Run P f N rd todo E D w R := by
  intro kind cs tmps hc ht
  obtain ⟨o, w', r, m, h1, h2⟩ := h kind cs tmps hc ht
  exact ⟨o, w', r, m, .head (hs kind cs tmps ht) h1, h2⟩
theorem skip (h : Run P f N rd k E D w R) : Run P f N rd (.code .skip :: k) E D w R :=
  .of_step (fun _ _ _ _ => step_lone_go (by simp [stepG, stepG.exec])) h
theorem inBlock {id : Nat} (h : Run P f N rd k E D w R) : Run P f N rd (.inBlock id :: k) E D w R :=
  .of_step (fun _ _ _ _ => step_lone_go (by simp [stepG, stepG.exec])) h
theorem seq {a b : Code} (h : Run P f N rd (.code a :: .code b :: k) E D w R) : Run P f N rd (.code (.seq a b) :: k) E D w R :=
  .of_step (fun _ _ _ _ => step_lone_go (by simp [stepG, stepG.exec])) h
theorem block {id : Nat} {c : Code} (h : Run P f N rd (.code c :: .inBlock id :: k) E D w R) : Run P f N rd (.code (.block id c) :: k) E D w R :=
  .of_step (fun _ _ _ _ => step_lone_go (by simp [stepG, stepG.exec])) h
theorem loop1 {c : Code} (h : Run P f N rd (.code c :: .inLoop c :: k) E D w R) : Run P f N rd (.code (.loop c) :: k) E D w R :=
  .of_step (fun _ _ _ _ => step_lone_go (by simp [stepG, stepG.exec])) h
theorem loop2 {c : Code} (h : Run P f N rd (.code c :: .inLoop c :: k) E D w R) : Run P f N rd (.inLoop c :: k) E D w R :=
  .of_step (fun _ _ _ _ => step_lone_go (by simp [stepG, stepG.exec])) h
theorem exit {id : Nat} {k' : List Item} (hk : exitTo id k = some k') (h : Run P f N rd k' E D w R) : Run P f N rd (.code (.exit id) :: k) E D w R :=
  .of_step (fun _ _ _ _ => step_lone_go (by simp [stepG, stepG.exec, hk])) h
theorem cond {c : Operand} {a b : Code} {t : Bool} (hc : E.ev c = .bool t) (h : Run P f N rd (.code (if t then a else b) :: k) E D w R) : Run P f N rd (.code (.cond c a b) :: k) E D w R := by
  refine .of_step (todo' := .code (if t then a else b) :: k) (fun kind cs tmps ht => step_lone_go ?_) h
  have : (Fm f rd kind tmps (.code (.cond c a b) :: k) D .run).eval c = .bool t := by rw [frame_eval, ht.eval, hc]
  simp only [stepG, stepG.exec, this, GStep.bare_go]
theorem condT {c : Operand} {a b : Code} (hc : E.ev c = .bool true) (h : Run P f N rd (.code a :: k) E D w R) : Run P f N rd (.code (.cond c a b) :: k) E D w R := cond hc h
theorem condF {c : Operand} {a b : Code} (hc : E.ev c = .bool false) (h : Run P f N rd (.code b :: k) E D w R) : Run P f N rd (.code (.cond c a b) :: k) E D w R := cond hc h
theorem condB {c : Operand} {a b : Code} {t : Bool} (hc : E.ev c = .bool t) (h1 : t = true → Run P f N rd (.code a :: k) E D w R) (h0 : t = false → Run P f N rd (.code b :: k) E D w R) : Run P f N rd (.code (.cond c a b) :: k) E D w R := by
  cases t with
  | true => exact cond hc (h1 rfl)
  | false => exact cond hc (h0 rfl)
theorem condP {c : Operand} {a b : Code} {p : Prop} [Decidable p] (hc : E.ev c = .bool (decide p)) (h1 : p → Run P f N rd (.code a :: k) E D w R) (h0 : ¬ p → Run P f N rd (.code b :: k) E D w R) : Run P f N rd (.code (.cond c a b) :: k) E D w R :=
  condB hc (fun h => h1 (of_decide_eq_true h)) (fun h => h0 (of_decide_eq_false h))
/-! ### 4. The end of a function -/
theorem ret_unw {f : FuncId} (h : Unw P f N .returning E D w R) : Run P f N none (.code .ret :: k) E D w R := by
  intro kind cs tmps _ ht
  obtain ⟨o, w', r, fr, h1, h2⟩ := h kind cs tmps (.code .ret :: k) ht
  exact ⟨o, w', r, _, .head (step_lone_go (by simp [stepG, stepG.exec])) h1, fr, rfl, h2⟩
theorem end_unw {f : FuncId} (h : Unw P f N .returning E D w R) : Run P f N none [] E D w R := by
  intro kind cs tmps _ ht
  obtain ⟨o, w', r, fr, h1, h2⟩ := h kind cs tmps [] ht
  exact ⟨o, w', r, _, .head (step_lone_go (by simp [stepG, stepG.exec])) h1, fr, rfl, h2⟩
theorem unw_ret {fn : Func} {v : Value} (hf : P.funcs[f]? = some fn) (hr : ∀ tmps, Rep N E tmps → (results fn tmps).run P w = .ok v w) (h : R (.ret v) w) : Unw P f N .returning E [] w R :=
  fun _ _ tmps _ ht => ⟨.ret v, w, h, _, .refl _ _, rfl, rfl, rfl, rfl, fn, hf, hr tmps ht⟩
theorem unw_pan {fn : Func} {ch : List PanicEntry} (hf : P.funcs[f]? = some fn) (h : R (.pan ch) w) : Unw P f N (.panicking ch) E [] w R :=
  fun _ _ _ _ _ => ⟨.pan ch, w, h, _, .refl _ _, rfl, rfl, rfl, rfl, fn, hf⟩
theorem ret0 {fn : Func} (hf : P.funcs[f]? = some fn) (hr : fn.results = #[]) (h : R (.ret (.tuple #[])) w) : Run P f N none (.code .ret :: k) E [] w R :=
  ret_unw (unw_ret hf (fun tmps _ => results_none hr tmps P w) h)
theorem end0 {fn : Func} (hf : P.funcs[f]? = some fn) (hr : fn.results = #[]) (h : R (.ret (.tuple #[])) w) : Run P f N none [] E [] w R :=
  end_unw (unw_ret hf (fun tmps _ => results_none hr tmps P w) h)
theorem ret1 {fn : Func} {t : Tmp} {v : Value} (hf : P.funcs[f]? = some fn) (hr : fn.results = #[.tmp t]) (hv : E.ev (.tmp t) = v) (h : R (.ret v) w) : Run P f N none (.code .ret :: k) E [] w R :=
  ret_unw (unw_ret hf (fun tmps ht => by rw [results_tmp hr, ht.at_ t, ← hv]; rfl) h)
theorem ret2 {fn : Func} {t1 t2 : Tmp} {v1 v2 : Value} (hf : P.funcs[f]? = some fn) (hr : fn.results = #[.tmp t1, .tmp t2]) (h1 : E.ev (.tmp t1) = v1) (h2 : E.ev (.tmp t2) = v2) (h : R (.ret (.tuple #[v1, v2])) w) :
    Run P f N none (.code .ret :: k) E [] w R :=
  ret_unw (unw_ret hf (fun tmps ht => by rw [results_tmp2 hr, ht.at_ t1, ht.at_ t2, ← h1, ← h2]; rfl) h)
theorem ret3 {fn : Func} {t1 t2 t3 : Tmp} {v1 v2 v3 : Value} (hf : P.funcs[f]? = some fn) (hr : fn.results = #[.tmp t1, .tmp t2, .tmp t3]) (h1 : E.ev (.tmp t1) = v1) (h2 : E.ev (.tmp t2) = v2) (h3 : E.ev (.tmp t3) = v3)
    (h : R (.ret (.tuple #[v1, v2, v3])) w) : Run P f N none (.code .ret :: k) E [] w R :=
  ret_unw (unw_ret hf (fun tmps ht => by
    have : (results fn tmps).run P w = .ok (.tuple #[tmps.getD t1 undef, tmps.getD t2 undef, tmps.getD t3 undef]) w := by simp [results, hr]
    rw [this, ht.at_ t1, ht.at_ t2, ht.at_ t3, ← h1, ← h2, ← h3]; rfl) h)
def argL : List Value → Nat → List (Nat × Value)
  | [], _ => []
  | v :: vs, i => (i, v) :: argL vs (i + 1)
def Env.enter (args : List Value) : Env := ⟨argL args 0, fun _ => undef⟩
theorem lk_argL (b : Nat → Value) : ∀ (vs : List Value) (i t : Nat), lk b (argL vs i) t = if i ≤ t ∧ t < i + vs.length then vs.getD (t - i) undef else b t
  | [], i, t => by simp [argL, lk]; omega
  | v :: vs, i, t => by
    unfold argL lk
    by_cases e : i = t
    · subst e
      rw [Nat.beq_refl]
      simp
    · have : Nat.beq i t = false := by
        cases hb : Nat.beq i t
        · rfl
        · exact absurd (Nat.eq_of_beq_eq_true hb) e
      rw [this]
      show lk b (argL vs (i + 1)) t = _
      rw [lk_argL b vs (i + 1) t]
      by_cases h : i + 1 ≤ t ∧ t < i + 1 + vs.length
      · rw [if_pos h, if_pos (by simp; omega)]
        rw [show t - i = (t - (i + 1)) + 1 by omega]
        simp
      · rw [if_neg h, if_neg (by simp; omega)]
theorem Rep.enter (N : Nat) (args : List Value) (h : args.length ≤ N) : Rep N (Env.enter args) (args.toArray ++ Array.replicate (N - args.toArray.size) undef) := by
  refine ⟨by simp; omega, fun t => ?_⟩
  show _ = lk _ (argL args 0) t
  rw [lk_argL]
  simp only [Array.getD]
  by_cases h1 : t < args.length
  · rw [if_pos Zz, dif_pos (by simp; omega)]
    simp [h1, List.getD_eq_getElem?_getD]
  · rw [if_neg Zz]
    split
    · simp [Array.getElem_append, h1, Env.enter]
    · rfl
theorem enter {fn : Func} {c : Code} {args : List Value} {N : Nat} (hf : P.funcs[f]? = some fn) (hb : fn.body = some c) (hN : fn.ntmps = N) (hl : Nat.ble args.length N = true)
    (h : Run P f N none [.code c] (Env.enter args) [] w R) : Call P f args.toArray w R := by
  intro kind cs
  have hent : Frame.enter P f args.toArray kind = Fm f none kind (args.toArray ++ Array.replicate (N - args.toArray.size) undef) [.code c] [] .run := by
    simp [Frame.enter, hf, hb, hN]
  obtain ⟨o, w', r, m, h1, fr, rfl, h2⟩ := h kind cs _ (fun h => absurd rfl h) (Rep.enter N args (Nat.le_of_ble_eq_true hl))
  exact ⟨o, w', r, fr, hent ▸ h1, h2⟩
/-! ### 5. Loops: 'k' knows, in each round, that the loop's head is good at every smaller state -/
theorem loop {c : Code} {σ : Type} (I : σ → Env → World → Prop) (μ : σ → Nat) (s0 : σ) (h0 : I s0 E w)
    (h : ∀ s E' w', I s E' w' → (∀ s' E'' w'', I s' E'' w'' → μ s' < μ s → Run P f N rd (.inLoop c :: k) E'' D w'' R) → Run P f N rd (.code c :: .inLoop c :: k) E' D w' R) :
    Run P f N rd (.code (.loop c) :: k) E D w R := by
  have key : ∀ n s E' w', μ s = n → I s E' w' → Run P f N rd (.code c :: .inLoop c :: k) E' D w' R := by
    intro n
    induction n using Nat.strongRecOn with
    | _ n ih =>
      intro s E' w' hn hi
      exact h s E' w' hi fun s' E'' w'' hi' hlt => loop2 (ih (μ s') (hn ▸ hlt) s' E'' w'' rfl hi')
  exact loop1 (key _ s0 E w rfl h0)
theorem Run.env {todo : List Item} {E E' : Env} (he : ∀ t, E.at_ t = E'.at_ t) (h : Run P f N rd todo E' D w R) : Run P f N rd todo E D w R := by
  exact fun kind cs tmps hc ht => h kind cs tmps hc ⟨ht.size, fun t => (ht.at_ t).trans (he t)⟩
theorem lk_over (b : Nat → Value) (L : List (Nat × Value)) (g : Nat → Value) (h : ∀ p, p ∈ L → g p.1 = p.2) (hb : ∀ t, b t = g t) : ∀ t, lk b L t = g t := by
  intro t
  induction L with
  | nil => exact hb t
  | cons p L ih =>
    obtain ⟨d, v⟩ := p
    unfold lk
    cases hbq : Nat.beq d t
    · exact ih fun p hp => h p (List.mem_cons_of_mem _ hp)
    · have := Nat.eq_of_beq_eq_true hbq
      subst this
      exact (h (d, v) (List.mem_cons_self ..)).symm
def Holds (E : Env) : List (Nat × Value) → Prop
  | [] => True
  | (d, v) :: l => lk E.b E.l d = v ∧ Holds E l
theorem Holds.mem {E : Env} : ∀ {L : List (Nat × Value)}, Holds E L → ∀ p, p ∈ L → E.at_ p.1 = p.2
  | [], _, p, hp => by cases hp
  | (d, v) :: l, h, p, hp => by
    rcases List.mem_cons.1 hp with rfl | hp
    · exact h.1
    · exact Holds.mem h.2 p hp
theorem forget (L : List (Nat × Value)) (hL : Holds E L) {todo : List Item} (h : ∀ b, Run P f N rd todo ⟨L, b⟩ D w R) : Run P f N rd todo E D w R :=
  Run.env (E' := ⟨L, E.at_⟩) (fun t => (lk_over E.at_ L E.at_ hL.mem (fun _ => rfl) t).symm) (h E.at_)
theorem loopL {c : Code} {σ : Type} (enc : σ → List (Nat × Value)) (I : σ → World → Prop) (μ : σ → Nat) (s0 : σ) (he : Holds E (enc s0)) (h0 : I s0 w)
    (h : ∀ s b w', I s w' → (∀ s' E'' w'', Holds E'' (enc s') → I s' w'' → μ s' < μ s → Run P f N rd (.inLoop c :: k) E'' D w'' R) → Run P f N rd (.code c :: .inLoop c :: k) ⟨enc s, b⟩ D w' R) :
    Run P f N rd (.code (.loop c) :: k) E D w R :=
  forget (enc s0) he fun b => loop (fun s E w => (∃ b, E = ⟨enc s, b⟩) ∧ I s w) μ s0 ⟨⟨b, rfl⟩, h0⟩ fun s E' w' hi hk => by
    obtain ⟨⟨b, rfl⟩, hi⟩ := hi
    exact h s b w' hi fun s' E'' w'' hh hi' hlt => forget (enc s') hh fun b' => hk s' _ w'' ⟨⟨b', rfl⟩, hi'⟩ hlt
end
def Does (P : Program) (o : Oper) (ρ : Operand → Value) (w : World) (v : Value) (w' : World) : Prop :=
  ∀ (fr : Frame) (cs : List Frame) (ops : Array Oper) (i : Nat) (rest : List Nat) (k : List Item), fr.todo = .inRegion ops (i :: rest) :: k → fr.mode = .run → ops[i]? = some o →
    Region.wanted o (yielded ops fr.tmps) = true → (∀ x, x ∈ o.op.operands → fr.eval x = ρ x) → Steps P (lone fr cs w) (lone (fr.finish v) cs w')
theorem map_eq {ρ ρ' : Operand → Value} (a : Array Operand) (h : ∀ x, x ∈ a → ρ x = ρ' x) : a.map ρ = a.map ρ' := Array.map_congr_left h
theorem opt_eq {ρ ρ' : Operand → Value} (a : Option Operand) (h : ∀ x, a = some x → ρ x = ρ' x) : a.map ρ = a.map ρ' := by
  cases a with
  | none => rfl
  | some x => simp [h x rfl]
theorem resolve_eq {ρ ρ' : Operand → Value} (c : Go.Call) (t : TypeId) (h : ∀ x, x ∈ c.operands → ρ x = ρ' x) : resolve ρ c t = resolve ρ' c t := by
  obtain ⟨cal, args, at_⟩ := c
  have ha : args.map ρ = args.map ρ' := map_eq _ fun x hx => h x (by simp only [Go.Call.operands]; exact Array.mem_append.2 (.inr hx))
  unfold resolve
  simp only [ha]
  cases cal with
  | value f => simp only [h f (by simp [Go.Call.operands])]
  | invoke r n => simp only [h r (by simp [Go.Call.operands])]
  | builtin b => rfl
def plain : Op → Bool
  | .select .. | .defer _ | .go _ => false
  | _ => true
theorem execOp_eq {ρ ρ' : Operand → Value} (o : Oper) (hp : plain o.op = true) (h : ∀ x, x ∈ o.op.operands → ρ x = ρ' x) : execOp ρ o = execOp ρ' o := by
  obtain ⟨dst, op, ty, pos, aft, g⟩ := o
  simp only at h
  cases op with
  | call c => simp only [execOp, resolve_eq c ty h]
  | go c => cases hp
  | defer c => cases hp
  | build t ps =>
    have : ps.map (fun (i, x) => (i, ρ x)) = ps.map (fun (i, x) => (i, ρ' x)) := Array.map_congr_left fun ⟨i, x⟩ hx => by
      have := h x (by simp only [Op.operands]; exact List.mem_toArray.2 (List.mem_map.2 ⟨(i, x), Array.mem_toList_iff.2 hx, rfl⟩))
      simp [this]
    simp only [execOp]; rw [this]
  | buildSlice t n ps =>
    have : ps.map (fun (i, x) => (i, ρ x)) = ps.map (fun (i, x) => (i, ρ' x)) := Array.map_congr_left fun ⟨i, x⟩ hx => by
      have := h x (by simp only [Op.operands]; exact List.mem_toArray.2 (List.mem_map.2 ⟨(i, x), Array.mem_toList_iff.2 hx, rfl⟩))
      simp [this]
    simp only [execOp]; rw [this]
  | makeFunc fn a b =>
    have h1 : a.map ρ = a.map ρ' := map_eq _ fun x hx => h x (by simp only [Op.operands]; exact Array.mem_append.2 (.inl hx))
    have h2 : b.map ρ = b.map ρ' := map_eq _ fun x hx => h x (by simp only [Op.operands]; exact Array.mem_append.2 (.inr hx))
    simp only [execOp, h1, h2]
  | makeMap t r =>
    have : r.map ρ = r.map ρ' := opt_eq _ fun x hx => h x (by subst hx; simp [Op.operands])
    simp only [execOp, this]
  | slice t x lo hi mx =>
    have h0 := h x (by simp [Op.operands])
    have h1 : lo.map ρ = lo.map ρ' := opt_eq _ fun x hx => h x (by subst hx; simp [Op.operands])
    have h2 : hi.map ρ = hi.map ρ' := opt_eq _ fun x hx => h x (by subst hx; simp [Op.operands])
    have h3 : mx.map ρ = mx.map ρ' := opt_eq _ fun x hx => h x (by subst hx; simp [Op.operands])
    simp only [execOp, h0, h1, h2, h3]
  | select cs b => cases hp
  | alloc | ready | waits => rfl
  | _ =>
    simp only [Op.operands, Array.mem_def, List.mem_cons, List.not_mem_nil, or_false] at h
    first
      | (have h1 := h _ rfl; simp only [execOp, h1])
      | (have h1 := h _ (.inl rfl); have h2 := h _ (.inr rfl); simp only [execOp, h1, h2])
      | (have h1 := h _ (.inl rfl); have h2 := h _ (.inr (.inl rfl)); have h3 := h _ (.inr (.inr rfl)); simp only [execOp, h1, h2, h3])
theorem stepG_op' {P : Program} {fr : Frame} {cs : List Frame} {w : World} {ops : Array Oper} {i : Nat} {rest : List Nat} {k : List Item} {o : Oper} (ht : fr.todo = .inRegion ops (i :: rest) :: k) (hm : fr.mode = .run) (ho : ops[i]? = some o)
    (hw : Region.wanted o (yielded ops fr.tmps) = true) (hp : plain o.op = true) :
    stepG P true { frame := fr, callers := cs, status := .running, dying := none } w = stepG.apply P true fr cs none (execOp fr.eval o) w := by
  obtain ⟨fn, tmps, todo, D, mode, kind, rd⟩ := fr
  simp only at ht hm hw
  subst ht hm
  simp only [stepG, stepG.exec, ho, Option.map_some, Option.getD_some, hw, if_true, stepG.oper, Frame.oper?]
  cases rd with
  | none => rfl
  | some l =>
    obtain ⟨dst, op, ty, pos, aft, g⟩ := o
    cases op <;> first | rfl | (cases hp)
theorem does_run {P : Program} {o : Oper} {ρ : Operand → Value} {w : World} {v : Value} {w' : World} (hp : plain o.op = true) (h : (execOp ρ o).run P w = .ok (.value v) w') : Does P o ρ w v w' := by
  intro fr cs ops i rest k ht hm ho hw he
  refine .one (step_lone_go ?_)
  rw [stepG_op' ht hm ho hw hp, execOp_eq o hp he]
  simp [stepG.apply, h]
theorem does_skip {P : Program} {o : Oper} {ρ : Operand → Value} {w : World} {w' : World} (hp : plain o.op = true) (h : (execOp ρ o).run P w = .ok .skip w') : Does P o ρ w undef w' := by
  intro fr cs ops i rest k ht hm ho hw he
  refine .one (step_lone_go ?_)
  rw [stepG_op' ht hm ho hw hp, execOp_eq o hp he]
  simp [stepG.apply, h]
def DoesE (P : Program) (o : Oper) (ρ : Operand → Value) (w : World) (Q : Value → World → Prop) : Prop :=
  ∀ (fr : Frame) (cs : List Frame) (ops : Array Oper) (i : Nat) (rest : List Nat) (k : List Item), fr.todo = .inRegion ops (i :: rest) :: k → fr.mode = .run → ops[i]? = some o →
    Region.wanted o (yielded ops fr.tmps) = true → (∀ x, x ∈ o.op.operands → fr.eval x = ρ x) → ∃ v w', Q v w' ∧ Steps P (lone fr cs w) (lone (fr.finish v) cs w')
theorem Does.e {P : Program} {o : Oper} {ρ : Operand → Value} {w : World} {v : Value} {w' : World} {Q : Value → World → Prop} (h : Does P o ρ w v w') (hq : Q v w') : DoesE P o ρ w Q :=
  fun fr cs ops i rest k ht hm ho hw he => ⟨v, w', hq, h fr cs ops i rest k ht hm ho hw he⟩
theorem DoesE.mono {P : Program} {o : Oper} {ρ : Operand → Value} {w : World} {Q Q' : Value → World → Prop} (h : DoesE P o ρ w Q) (hq : ∀ v w', Q v w' → Q' v w') : DoesE P o ρ w Q' :=
  fun fr cs ops i rest k ht hm ho hw he => let ⟨v, w', h1, h2⟩ := h fr cs ops i rest k ht hm ho hw he; ⟨v, w', hq v w' h1, h2⟩
theorem does_enter {P : Program} {o : Oper} {ρ : Operand → Value} {w w1 : World} {Q : Value → World → Prop} {g : FuncId} {args : Array Value} (hp : plain o.op = true) (h : (execOp ρ o).run P w = .ok (.enter g args) w1)
    (hc : ∀ cs, ∃ v w', Q v w' ∧ ∃ fr, Steps P (lone (Frame.enter P g args .normal) cs w1) (lone fr cs w') ∧ Left P g .normal fr w' (.ret v)) : DoesE P o ρ w Q := by
  intro fr cs ops i rest k ht hm ho hw he
  have h1 : step P (lone fr cs w) = .next (lone (Frame.enter P g args .normal) (fr :: cs) w1) := by
    refine step_lone_go ?_
    rw [stepG_op' ht hm ho hw hp, execOp_eq o hp he]
    simp only [stepG.apply, Sem.runT_eq, h, GStep.bare_after, if_true, ht]
    rfl
  obtain ⟨v, w', hq, fr', hs, hm', hd, hk, hf, fn, hfn, hr⟩ := hc (fr :: cs)
  refine ⟨v, w', hq, .head h1 (hs.trans (.one (step_lone_go ?_)))⟩
  simp [stepG, unwind, doReturn, hm', hd, hk, hf, hfn, hr]
section
variable {P : Program} {f : FuncId} {N : Nat} {rd : Option Nat} {k : List Item} {E : Env} {D : List Deferred} {w : World} {R : Out → World → Prop} {ops : Array Oper}
def Ops (P : Program) (f : FuncId) (N : Nat) (rd : Option Nat) (ops : Array Oper) (l : List Oper) (k : List Item) (E : Env) (D : List Deferred) (w : World) (R : Out → World → Prop) : Prop :=
  ∀ idx : List Nat, idx.map (fun i => ops[i]?) = l.map some → Run P f N rd (.inRegion ops idx :: k) E D w R
theorem region {id : Nat} {l : List Oper} (h : Ops P f N rd l.toArray l k E D w R) : Run P f N rd (.code (.region id l.toArray false) :: k) E D w R := by
  refine .of_step (todo' := .inRegion l.toArray (List.range l.toArray.size) :: k) (fun _ _ _ _ => step_lone_go (by simp [stepG, stepG.exec])) (h _ ?_)
  apply List.ext_getElem
  · simp
  · intro i h1 h2
    simp
theorem opsEnd (h : Run P f N rd k E D w R) : Ops P f N rd ops [] k E D w R := by
  intro idx hi
  have : idx = [] := by simpa using hi
  subst this
  exact .of_step (fun _ _ _ _ => step_lone_go (by simp [stepG, stepG.exec])) h
theorem finish_region (f : FuncId) (rd : Option Nat) (kind : CallKind) (tmps : Array Value) (ops : Array Oper) (i : Nat) (rest : List Nat) (k : List Item) (D : List Deferred) (o : Oper) (ho : ops[i]? = some o) (v : Value) :
    (Fm f rd kind tmps (.inRegion ops (i :: rest) :: k) D .run).finish v = Fm f rd kind (putT tmps o.dst v) (.inRegion ops rest :: k) D .run := by
  simp only [Frame.finish, ho, Option.bind_some]
  cases o.dst <;> rfl
theorem opWE {l : List Oper} {o : Oper} {Q : Value → World → Prop} (hw : ∀ tmps, Rep N E tmps → Region.wanted o (yielded ops tmps) = true) (hd : ∀ d, o.dst = some d → d < N) (ho : DoesE P o E.ev w Q)
    (h : ∀ v w', Q v w' → Ops P f N rd ops l k (E.put o.dst v) D w' R) : Ops P f N rd ops (o :: l) k E D w R := by
  intro idx hi
  cases idx with
  | nil => simp at hi
  | cons i rest =>
    simp only [List.map_cons, List.cons.injEq] at hi
    intro kind cs tmps hc ht
    obtain ⟨v, w', hq, h1⟩ := ho (Fm f rd kind tmps (.inRegion ops (i :: rest) :: k) D .run) cs ops i rest k rfl rfl hi.1 (hw tmps ht) (fun x _ => by rw [frame_eval, ht.eval])
    rw [finish_region f rd kind tmps ops i rest k D o hi.1] at h1
    obtain ⟨z, w2, r, m, h2, h3⟩ := h v w' hq rest hi.2 kind cs _ hc (ht.put' o.dst v hd)
    exact ⟨z, w2, r, m, h1.trans h2, h3⟩
theorem opW {l : List Oper} {o : Oper} {v : Value} {w' : World} (hw : ∀ tmps, Rep N E tmps → Region.wanted o (yielded ops tmps) = true) (hd : ∀ d, o.dst = some d → d < N) (ho : Does P o E.ev w v w')
    (h : Ops P f N rd ops l k (E.put o.dst v) D w' R) : Ops P f N rd ops (o :: l) k E D w R :=
  opWE hw hd (ho.e (Q := fun v1 w1 => v1 = v ∧ w1 = w') ⟨rfl, rfl⟩) (by rintro _ _ ⟨rfl, rfl⟩; exact h)
theorem blt_lt {a b : Nat} (h : Nat.blt a b = true) : a < b := by rw [Nat.blt_eq] at h; exact h
def dstOk (N : Nat) : Option Tmp → Bool
  | some d => Nat.blt d N
  | none => true
theorem dstOk.lt {N : Nat} {o : Option Tmp} (h : dstOk N o = true) : ∀ d, o = some d → d < N := by
  intro d hd
  subst hd
  exact blt_lt h
theorem op {l : List Oper} {o : Oper} {v : Value} {w' : World} (ho : Does P o E.ev w v w') (hg : o.guard = none) (hd : dstOk N o.dst = true)
    (h : Ops P f N rd ops l k (E.put o.dst v) D w' R) : Ops P f N rd ops (o :: l) k E D w R :=
  opW (fun _ _ => by simp [Region.wanted, hg]) (dstOk.lt hd) ho h
theorem opS {l : List Oper} {o : Oper} {j d : Nat} {b b' : Bool} (hg : o.guard = some (j, b)) (hj : (ops[j]?).bind (·.dst) = some d) (hb : E.ev (.tmp d) = .bool b') (hne : (b' != b) = true) (hd : dstOk N o.dst = true)
    (h : Ops P f N rd ops l k (E.put o.dst undef) D w R) : Ops P f N rd ops (o :: l) k E D w R := by
  intro idx hi
  cases idx with
  | nil => simp at hi
  | cons i rest =>
    simp only [List.map_cons, List.cons.injEq] at hi
    intro kind cs tmps hc ht
    have hw : Region.wanted o (yielded ops tmps) = false := by
      have h1 : tmps.getD d undef = .bool b' := (ht.at_ d).trans hb
      simp only [Region.wanted, hg, yielded, hj, Option.bind_some]
      by_cases hlt : d < tmps.size
      · have h2 : tmps[d]? = some (.bool b') := by
          rw [Array.getElem?_eq_getElem hlt]
          simpa [Array.getD, hlt] using h1
        rw [h2]
        cases b <;> cases b' <;> first | rfl | simp at hne
      · rw [Array.getElem?_eq_none Zz]
        rfl
    obtain ⟨z, w2, r, m, h2, h3⟩ := h rest hi.2 kind cs _ hc (ht.put' o.dst undef (dstOk.lt hd))
    refine ⟨z, w2, r, m, .head (step_lone_go ?_) h2, h3⟩
    rw [← finish_region f rd kind tmps ops i rest k D o hi.1]
    simp [stepG, stepG.exec, hi.1, hw]
theorem lk_put (b : Nat → Value) (l : List (Nat × Value)) (d : Nat) (t : Nat) : lk b ((d, lk b l d) :: l) t = lk b l t := by
  show (match Nat.beq d t with | true => lk b l d | false => lk b l t) = _
  cases h : Nat.beq d t
  · rfl
  · rw [Nat.eq_of_beq_eq_true h]
theorem Ops.env {l : List Oper} {E E' : Env} (he : ∀ t, E.at_ t = E'.at_ t) (h : Ops P f N rd ops l k E' D w R) : Ops P f N rd ops l k E D w R := fun idx hi => Run.env he (h idx hi)
theorem forkO {l : List Oper} (d : Nat) {b : Bool} (hb : E.ev (.tmp d) = .bool b) (h1 : b = true → Ops P f N rd ops l k (E.put (some d) (.bool true)) D w R) (h0 : b = false → Ops P f N rd ops l k (E.put (some d) (.bool false)) D w R) : Ops P f N rd ops l k E D w R := by
  have he : ∀ t, E.at_ t = (E.put (some d) (.bool b)).at_ t := fun t => by
    show _ = lk E.b ((d, _) :: E.l) t
    rw [← hb]
    exact (lk_put E.b E.l d t).symm
  cases b with
  | true => exact Ops.env he (h1 rfl)
  | false => exact Ops.env he (h0 rfl)
end
end Go.Proofs.YtjjhddjllpihaaaGreatDoor.X
