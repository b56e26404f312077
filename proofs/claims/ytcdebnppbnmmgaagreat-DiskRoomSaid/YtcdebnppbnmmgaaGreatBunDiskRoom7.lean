/- Texts that the proof of DiskRoom stands on, part 7. -/
import Derived.WideLaws
import Derived.Test.YtcdebnppbnmmgaaGreatBunDiskRoom6

namespace Go.Proofs.YtcdebnppbnmmgaaGreat.X
open Go
set_option linter.unusedSimpArgs false

/-! ### 1. Results in cells -/
section
variable {P : Program} {f : FuncId} {N : Nat} {k : List Item} {E : Env} {D : List Deferred} {w : World} {R : Out → World → Prop}
theorem lvN {T : TypeId} {b n : Nat} {cs : List Value} {e : TypeId} (hT : ∀ w, (isAgg T).run P w = .ok true w) (hs : ∀ w, (sizeOf T).run P w = .ok n w) (hB : Blk w b cs e) (hl : cs.length = n) : (loadVar T ⟨b, 0, none⟩).run P w = .ok (.agg cs.toArray) w := by
  subst hl
  have := run_loadCells_list (P := P) w ⟨b, 0, none⟩ cs (fun j u hu => by rw [add_mk, hB.cell, Nat.zero_add]; exact hu)
  simp [loadVar, hT, hs, this]
/-- What a result's row reads. -/
def ResOk (P : Program) (E : Env) (w : World) : ResultVar → Value → Prop
  | .tmp t, v => E.at_ t = v
  | .cell a T, v => ∃ ad, E.at_ a = .pointer (some ad) ∧ (loadVar T ad).run P w = .ok v w
theorem ResOk.cell {a T : Nat} {b : Nat} {v : Value} (h : E.ev (.tmp a) = .pointer (some ⟨b, 0, none⟩)) (hl : (loadVar T ⟨b, 0, none⟩).run P w = .ok v w) : ResOk P E w (.cell a T) v := ⟨_, h, hl⟩
def resSem (tmps : Array Value) : ResultVar → Sem Value
  | .tmp t => pure (tmps.getD t undef)
  | .cell a T => do loadVar T (← asAddr (tmps.getD a undef))
theorem ResOk.run {tmps : Array Value} (ht : Rep N E tmps) {r : ResultVar} {v : Value} (h : ResOk P E w r v) : (resSem tmps r).run P w = .ok v w := by
  cases r with
  | tmp t =>
    have h : E.at_ t = v := h
    simp [resSem, ht.at_ t, h]
  | cell a T =>
    obtain ⟨ad, h1, h2⟩ := h
    have h3 := (ht.at_ a).trans h1
    simp [resSem, h3, asAddr, h2]
theorem results_sem (fn : Func) (tmps : Array Value) : results fn tmps = (do let vs ← fn.results.mapM (resSem tmps); pure (if h : vs.size = 1 then vs[0] else .tuple vs)) := by
  unfold results
  congr
theorem unwR1 {fn : Func} {r1 : ResultVar} {v1 : Value} (hf : P.funcs[f]? = some fn) (hr : fn.results = #[r1]) (h1 : ResOk P E w r1 v1) (h : R (.ret v1) w) : Unw P f N .returning E [] w R :=
  unw_ret hf (fun tmps ht => by
    rw [results_sem, hr]
    simp [h1.run ht]) h
/-! ### 2. A call that may panic -/
theorem Ext.andThen {T U : Nat → Prop} {a b c : World} (h : Ext T a b) (h' : Ext U b c) (hU : ∀ k, k < a.heap.size → U k → T k) : Ext T a c := Ext.trans h h' (fun _ _ x => x) hU
end
section
variable {P : Program} {f : FuncId} {N : Nat} {k : List Item} {E : Env} {D : List Deferred} {w : World} {R : Out → World → Prop} {ops : Array Oper} {l : List Oper} {dst : Option Tmp} {ty : TypeId} {pos : String} {aft : Array Edge} {g : Option (Nat × Bool)}
/-- A DEFERRED CALL, made by a frame in this mode: what it leaves that mode as. -/
def DCall (P : Program) (f : FuncId) (args : Array Value) (w : World) (mode : FrameMode) (R : FrameMode → World → Prop) : Prop :=
  ∀ (c : Frame) cs, c.mode = mode → ∃ mode' w', R mode' w' ∧ ∃ fr v, Steps P (lone (Frame.enter P f args .deferred) (c :: cs) w) (lone fr ({ c with mode := mode' } :: cs) w') ∧ Left P f .deferred fr w' (.ret v)
/-- What 'recover' tells in a deferred call, and what it leaves. -/
def recOf : FrameMode → Value × FrameMode
  | .panicking ({ v, recovered := false, goexit := false } :: older) => (v, .panicking ({ v, recovered := true } :: older))
  | m => (.nilIface, m)
theorem tryRec (fr c : Frame) (cs : List Frame) (h : fr.kind = .deferred) : (tryRecover fr (c :: cs)) = none ∧ recOf c.mode = (.nilIface, c.mode) ∨ ∃ v m, tryRecover fr (c :: cs) = some (v, { c with mode := m } :: cs) ∧ recOf c.mode = (v, m) := by
  obtain ⟨fn, tmps, todo, D, mode, kind, rd⟩ := c
  simp only [tryRecover, h]
  cases mode with
  | run => left; exact ⟨rfl, rfl⟩
  | returning => left; exact ⟨rfl, rfl⟩
  | panicking ch =>
    cases ch with
    | nil => left; exact ⟨rfl, rfl⟩
    | cons e older =>
      obtain ⟨v, r, ge⟩ := e
      cases r <;> cases ge
      · right; exact ⟨v, _, rfl, rfl⟩
      · left; exact ⟨rfl, rfl⟩
      · left; exact ⟨rfl, rfl⟩
      · left; exact ⟨rfl, rfl⟩
/-- A deferred function that begins with 'recover()'. -/
theorem DCall.rec {fn : Func} {c : Code} {N id : Nat} {d : Tmp} {args : List Value} {mode mode' : FrameMode} {v : Value} {R : FrameMode → World → Prop} (hf : P.funcs[f]? = some fn) (hb : fn.body = some (.seq (.region id #[⟨some d, .call ⟨.builtin .recover, #[], #[]⟩, ty, pos, aft, none⟩] false) c)) (hN : fn.ntmps = N) (hl : Nat.ble args.length N = true) (hd : Nat.blt d N = true)
    (hrec : recOf mode = (v, mode')) (h : Run P f N none [.code c] ((Env.enter args).put (some d) v) [] w fun z w' => match z with | .ret _ => R mode' w' | .pan _ => False) : DCall P f args.toArray w mode R := by
  intro cl cs hcl
  have ht := (Rep.enter N args (Nat.le_of_ble_eq_true hl)).put d v (blt_lt hd)
  obtain ⟨z, w', hr, m, s1, hT⟩ := h .deferred ({ cl with mode := mode' } :: cs) _ (fun h => absurd rfl h) ht
  obtain ⟨fr, rfl, hl'⟩ := hT
  cases z with
  | pan ch => exact hr.elim
  | ret u =>
    have hent : Frame.enter P f args.toArray .deferred = Fm f none .deferred (args.toArray ++ Array.replicate (N - args.toArray.size) undef) [.code (.seq (.region id #[⟨some d, .call ⟨.builtin .recover, #[], #[]⟩, ty, pos, aft, none⟩] false) c)] [] .run := by
      simp [Frame.enter, hf, hb, hN]
    refine ⟨mode', w', hr, fr, u, ?_, hl'⟩
    rw [hent]
    clear ht
    generalize args.toArray ++ Array.replicate (N - args.toArray.size) undef = T at *
    have st1 : step P (lone (Fm f none .deferred T [.code (.seq (.region id #[⟨some d, .call ⟨.builtin .recover, #[], #[]⟩, ty, pos, aft, none⟩] false) c)] [] .run) (cl :: cs) w) = .next (lone (Fm f none .deferred T [.code (.region id #[⟨some d, .call ⟨.builtin .recover, #[], #[]⟩, ty, pos, aft, none⟩] false), .code c] [] .run) (cl :: cs) w) :=
      step_lone_go (by simp [stepG, stepG.exec])
    have st2 : step P (lone (Fm f none .deferred T [.code (.region id #[⟨some d, .call ⟨.builtin .recover, #[], #[]⟩, ty, pos, aft, none⟩] false), .code c] [] .run) (cl :: cs) w) = .next (lone (Fm f none .deferred T [.inRegion #[⟨some d, .call ⟨.builtin .recover, #[], #[]⟩, ty, pos, aft, none⟩] [0], .code c] [] .run) (cl :: cs) w) :=
      step_lone_go (by simp [stepG, stepG.exec, List.range_succ])
    have st3 : step P (lone (Fm f none .deferred T [.inRegion #[⟨some d, .call ⟨.builtin .recover, #[], #[]⟩, ty, pos, aft, none⟩] [0], .code c] [] .run) (cl :: cs) w) = .next (lone (Fm f none .deferred (T.setIfInBounds d v) [.inRegion #[⟨some d, .call ⟨.builtin .recover, #[], #[]⟩, ty, pos, aft, none⟩] [], .code c] [] .run) ({ cl with mode := mode' } :: cs) w) := by
      refine step_lone_go ?_
      rcases tryRec (Fm f none .deferred T [.inRegion #[⟨some d, .call ⟨.builtin .recover, #[], #[]⟩, ty, pos, aft, none⟩] [0], .code c] [] .run) cl cs rfl with ⟨h1, h2⟩ | ⟨v2, m2, h1, h2⟩
      · rw [hcl, hrec] at h2
        cases h2
        simp [stepG, stepG.exec, stepG.oper, Frame.oper?, Region.wanted, stepG.apply, execOp, resolve, invoke, builtin, h1, Frame.finish, ← hcl]
      · rw [hcl, hrec] at h2
        cases h2
        simp [stepG, stepG.exec, stepG.oper, Frame.oper?, Region.wanted, stepG.apply, execOp, resolve, invoke, builtin, h1, Frame.finish]
    have st4 : step P (lone (Fm f none .deferred (T.setIfInBounds d v) [.inRegion #[⟨some d, .call ⟨.builtin .recover, #[], #[]⟩, ty, pos, aft, none⟩] [], .code c] [] .run) ({ cl with mode := mode' } :: cs) w) = .next (lone (Fm f none .deferred (T.setIfInBounds d v) [.code c] [] .run) ({ cl with mode := mode' } :: cs) w) :=
      step_lone_go (by simp [stepG, stepG.exec])
    exact .head st1 (.head st2 (.head st3 (.head st4 s1)))
/-- What a frame's mode is when a deferred call of its has come to its end. -/
def after : FrameMode → FrameMode
  | .panicking ({ recovered := true, .. } :: older) => match older.dropWhile (!·.goexit) with
    | [] => .returning
    | rest => .panicking rest
  | m => m
/-! ### 4. Interface values -/
section
variable {P : Program} {ρ : Operand → Value} {w : World} {dst : Option Tmp} {ty : TypeId} {pos : String} {aft : Array Edge} {g : Option (Nat × Bool)}
end
end
end Go.Proofs.YtcdebnppbnmmgaaGreat.X

namespace Go.Proofs.YtcdebnppbnmmgaaGreat.X
open Go
set_option linter.unusedSimpArgs false

/-! ### lists -/
theorem getN {α : Type} {l : List α} {n : Nat} (i : Nat) (hl : l.length = n) (h : (i : Int) < (n : Int)) : ∃ x, l[i]? = some x := ⟨l[i]'(by omega), List.getElem?_eq_getElem (by omega)⟩
theorem drop_at {α : Type} {l : List α} {i : Nat} {x : α} (hx : l[i]? = some x) : l.drop i = x :: l.drop (i + 1) := by
  obtain ⟨h, rfl⟩ := List.getElem?_eq_some_iff.1 hx
  exact List.drop_eq_getElem_cons h
theorem take_at {α : Type} {l : List α} {i : Nat} {x : α} (hx : l[i]? = some x) : l.take (i + 1) = l.take i ++ [x] := by
  obtain ⟨h, rfl⟩ := List.getElem?_eq_some_iff.1 hx
  exact (List.take_append_getElem h).symm
theorem w32 (a : BitVec 32) : IntKind.u32.wrap (a.toNat : Int) = (a.toNat : Int) := w_u32 (by have := a.isLt; omega)
/-! ### rows of the call's own, new -/
def Fresh {α : Type} (K : Kd α) (e : TypeId) (w w' : World) (v : Value) (l : List α) : Prop := Mine K e (fun k => w.heap.size ≤ k) 0 0 w' v l ∧ Keep w w'
theorem Mine.step {α : Type} {K : Kd α} {e : TypeId} {S T : Nat → Prop} {w : World} {v : Value} {xs : List α} (h : Mine K e S 0 0 w v xs) (hS : ∀ k, S k → T k) : Mine K e T 0 0 w v xs := h.mono fun k _ => hS k
section
variable {P : Program} {ρ : Operand → Value} {w : World} {dst : Option Tmp} {ty : TypeId} {pos : String} {aft : Array Edge} {g : Option (Nat × Bool)}
/-- 'append(nil, make([]T, n)...)': a new row of zeros. -/
def NewRow (w : World) (b : Nat) (e : TypeId) (cap sz : Nat) : Prop := ∃ cur : Array Value, w.heap[b]? = some (.cells cur e (0, 0)) ∧ cur.size = cap * sz ∧ cap ≤ maxLen
/-- Its beginning, empty, as a row of the call's own. -/
theorem NewRow.mine {α : Type} {K : Kd α} {e : TypeId} {S : Nat → Prop} {b cap : Nat} (h : NewRow w b e cap K.sz) (hS : S b) : Mine K e S 0 0 w (.slice (some ⟨b, 0, none⟩) 0 cap) [] := by
  obtain ⟨cur, h1, h2, h3⟩ := h
  exact ⟨some b, ⟨⟨[], rfl, by simp, .inr ⟨b, cap, cur, rfl, Nat.zero_le _, h1, Nat.zero_le _, h3, h2, by simp⟩⟩, rfl⟩, fun k hk => by cases hk; exact hS⟩
theorem ptr_eq {T e : TypeId} (h : P.underlying T = some (.pointer e)) : P.underlying T = some (.pointer (P.pointee T)) := by
  have : P.pointee T = e := by simp [Program.pointee, h]
  rw [this]; exact h
/-- 'p == nil', 'p != nil'. -/
theorem eqPtrN {T e T' : TypeId} {x y : Operand} {A : Option Addr} (hT : P.underlying T = some (.pointer e)) (hx : ρ x = .pointer A) (hy : ρ y = .pointer none) : Does P ⟨dst, .binOp .eql T x y T', ty, pos, aft, g⟩ ρ w (.bool A.isNone) w :=
  does_run rfl (by
    have h1 := run_equal_pointer_nil (P := P) w T A (ptr_eq hT)
    simp only [execOp, hx, hy, binOp, eqGuard]
    simp [h1])
theorem nePtrN {T e T' : TypeId} {x y : Operand} {A : Option Addr} (hT : P.underlying T = some (.pointer e)) (hx : ρ x = .pointer A) (hy : ρ y = .pointer none) : Does P ⟨dst, .binOp .neq T x y T', ty, pos, aft, g⟩ ρ w (.bool (!A.isNone)) w :=
  does_run rfl (by
    have h1 := run_equal_pointer_nil (P := P) w T A (ptr_eq hT)
    simp only [execOp, hx, hy, binOp, eqGuard]
    simp [h1])
end

/-! ### rows that are read whole or are the call's own: both -/
def FreshS {α : Type} (K : Kd α) (e : TypeId) (w w' : World) (v : Value) (l : List α) : Prop := ∃ A c, v = .slice A l.length c ∧ l.length ≤ c ∧ Sl K 0 w'.heap.size w' A l.length l ∧ Mine K e (fun k => w.heap.size ≤ k) 0 0 w' v l ∧ Keep w w'
theorem Fresh.s {α : Type} {K : Kd α} {e : TypeId} {w w' : World} {v : Value} {l : List α} (hF : Flat K) (h : Fresh K e w w' v l) : FreshS K e w w' v l := by
  have q := h.1.slF hF 0 (fun _ _ => Nat.zero_le _)
  obtain ⟨A, c, e, hc, hs⟩ := q
  exact ⟨A, c, e, hc, hs, h.1, h.2⟩
/-- One cell, as it stands. -/
def KR1 : Kd Value where
  sz := 1
  R := fun _ _ _ v cs => cs = [v] ∧ v.oneCell' = true
  len := by rintro lo hi w x cs ⟨rfl, _⟩; rfl
  move := fun h _ => h
  wide := fun h _ _ => h
  one := by rintro lo hi w x cs ⟨rfl, h⟩ u hu; simp at hu; subst hu; exact h
/-- Several cells, as they stand. -/
def KRN (sz : Nat) : Kd Value where
  sz := sz
  R := fun _ _ _ v cs => v = .agg cs.toArray ∧ cs.length = sz ∧ ∀ u, u ∈ cs → u.oneCell' = true
  len := fun h => h.2.1
  move := fun h _ => h
  wide := fun h _ _ => h
  one := fun h => h.2.2
theorem KRN_flat (n : Nat) : Flat (KRN n) := fun h => h
/-- Slices that stand in a row, with what they hold. -/
def SlRows {α : Type} (K : Kd α) (lo hi : Nat) (w : World) : List Value → List (List α) → Prop
  | [], [] => True
  | v :: vs, l :: ls => (∃ A n c, v = .slice A n c ∧ n ≤ c ∧ Sl K lo hi w A n l) ∧ SlRows K lo hi w vs ls
  | _, _ => False
theorem SlRows.len {α : Type} {K : Kd α} {lo hi : Nat} {w : World} : ∀ {vs : List Value} {ls : List (List α)}, SlRows K lo hi w vs ls → vs.length = ls.length
  | [], [], _ => rfl
  | _ :: _, _ :: _, h => by simp [SlRows.len h.2]
  | [], _ :: _, h => h.elim
  | _ :: _, [], h => h.elim
theorem SlRows.get {α : Type} {K : Kd α} {lo hi : Nat} {w : World} : ∀ {vs : List Value} {ls : List (List α)}, SlRows K lo hi w vs ls → ∀ {i : Nat} {v : Value}, vs[i]? = some v → ∃ l A n c, ls[i]? = some l ∧ v = .slice A n c ∧ n ≤ c ∧ Sl K lo hi w A n l
  | [], [], _, i, v, hv => by simp at hv
  | u :: vs, l :: ls, h, i, v, hv => by
    cases i with
    | zero =>
      simp only [List.getElem?_cons_zero, Option.some.injEq] at hv
      subst hv
      obtain ⟨A, n, c, e, h1, h2⟩ := h.1
      exact ⟨l, A, n, c, rfl, e, h1, h2⟩
    | succ i => simp only [List.getElem?_cons_succ] at hv ⊢; exact SlRows.get h.2 hv
  | [], _ :: _, h, _, _, _ => h.elim
  | _ :: _, [], h, _, _, _ => h.elim
theorem SlRows.keep {α : Type} {K : Kd α} {lo hi : Nat} {w w' : World} (x : Keep w w') : ∀ {vs : List Value} {ls : List (List α)}, SlRows K lo hi w vs ls → SlRows K lo hi w' vs ls
  | [], [], _ => trivial
  | _ :: _, _ :: _, h => by
    obtain ⟨⟨A, n, c, e, h1, h2⟩, h3⟩ := h
    exact ⟨⟨A, n, c, e, h1, h2.keep x⟩, SlRows.keep x h3⟩
  | [], _ :: _, h => h.elim
  | _ :: _, [], h => h.elim
section
variable {P : Program} {ρ : Operand → Value} {w : World} {dst : Option Tmp} {ty : TypeId} {pos : String} {aft : Array Edge} {g : Option (Nat × Bool)}
/-- A literal, told in its own block. -/
theorem litKF {α : Type} {K : Kd α} (hF : Flat K) {T e : TypeId} {n : Nat} {z : Value} {ps : Array (Nat × Operand)} {xs : List Operand} {vs : List Value} {ys : List α} (hT : P.underlying T = some (.slice e)) (hs : ∀ w, (sizeOf e).run P w = .ok K.sz w) (hz : ∀ w, (zeroValue e).run P w = .ok z w)
    (h24 : Nat.ble (n * K.sz) 16777216 = true) (h0 : Nat.blt 0 (n * K.sz) = true) (hps : ps.toList = (xs.zipIdx 0).map fun x => (x.2, x.1)) (hn : xs.length = n) (hv : xs.map ρ = vs) (hr : RepsV K w ys vs) :
    DoesE P ⟨dst, .buildSlice T n ps, ty, pos, aft, g⟩ ρ w fun v' w' => v' = .slice (some ⟨w.heap.size, 0, none⟩) n n ∧ Sl K w.heap.size w'.heap.size w' (some ⟨w.heap.size, 0, none⟩) n ys ∧ Blk w' w.heap.size (vs.flatMap fun v => v.cells.toList) e ∧ Keep w w' ∧ w'.heap.size = w.heap.size + 1 := by
  obtain ⟨q1, q2, q3⟩ := hr.reps
  have hvl : vs.length = n := by rw [← hv, List.length_map, hn]
  have h0' := blt_lt h0
  have hp : 0 < K.sz := Nat.pos_of_ne_zero fun e => by rw [e] at h0'; omega
  have e1 : (ps.map fun (i, x) => (i, ρ x)).toList = (vs.zipIdx 0).map fun x => (x.2, x.1) := by
    rw [Array.toList_map, hps, ← hv, List.zipIdx_map, List.map_map, List.map_map]
    rfl
  refine (litNE (K := K) (lo := w.heap.size) (hi := w.heap.size) (cs := vs.flatMap fun v => v.cells.toList) (ys := ys) hT hs hz (Nat.le_of_ble_eq_true h24) h0' ?_ (q1.flat hF) (by omega)).mono fun v' w' ⟨h1, h2, h3, h4, h5⟩ => ⟨h1, h2.wide (by omega) (by omega), h3, h4, h5⟩
  rw [e1]
  exact Great.fill_whole hp vs _ q3 (by simp [hvl])
end
theorem SlRows.ext {α : Type} {K : Kd α} {lo hi : Nat} {w w' : World} {T : Nat → Prop} (x : Ext T w w') (hT : ∀ k, lo ≤ k → k < hi → ¬ T k) : ∀ {vs : List Value} {ls : List (List α)}, SlRows K lo hi w vs ls → SlRows K lo hi w' vs ls
  | [], [], _ => trivial
  | _ :: _, _ :: _, h => by
    obtain ⟨⟨A, n, c, e, h1, h2⟩, h3⟩ := h
    exact ⟨⟨A, n, c, e, h1, h2.ext x hT⟩, SlRows.ext x hT h3⟩
  | [], _ :: _, h => h.elim
  | _ :: _, [], h => h.elim
end Go.Proofs.YtcdebnppbnmmgaaGreat.X
