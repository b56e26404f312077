/- Calls, literals of slices, appends. -/
import Derived.Test.YtgfficbkajcdpaaXMemOps
namespace Go.Proofs.Ytgfficbkajcdpaa.X
open Go

section
variable {P : Program} {f : FuncId} {N : Nat} {rd : Option Nat} {k : List Item} {E : Env} {D : List Deferred} {w : World} {R : Out → World → Prop} {ops : Array Oper} {l : List Oper} {dst : Option Tmp} {ty : TypeId} {pos : String} {aft : Array Edge} {g : Option (Nat × Bool)}

/-! ### 1. Calls -/
/-- 'f(..)', f a function by its name. -/
theorem callE {ρ : Operand → Value} {G : FuncId} {xs : List Operand} {tys : Array TypeId} {vs : List Value} {R' : Value → World → Prop} (hc : Ret P G vs.toArray w R') (hG : ∀ args w, (callFunc G args).run P w = .ok (.enter G args) w) (hv : xs.map ρ = vs) (hf : ρ (.func G) = .func (.func G) #[] #[]) :
    DoesE P ⟨dst, .call ⟨.value (.func G), xs.toArray, tys⟩, ty, pos, aft, g⟩ ρ w R' := by
  obtain ⟨v, w', hr, hs⟩ := hc.call
  refine (does_enter (g := G) (args := vs.toArray) rfl ?_ hs).e hr
  simp [execOp, resolve, hf, Deferred.ofValue, invoke, hG, ← hv]
/-- 'x(..)', x a function value: what it captured comes behind. -/
theorem callVE {ρ : Operand → Value} {G : FuncId} {x : Operand} {cap : List Value} {xs : List Operand} {tys : Array TypeId} {vs : List Value} {R' : Value → World → Prop} (hx : ρ x = .func (.func G) #[] cap.toArray) (hc : Ret P G (vs ++ cap).toArray w R') (hG : ∀ args w, (callFunc G args).run P w = .ok (.enter G args) w) (hv : xs.map ρ = vs) :
    DoesE P ⟨dst, .call ⟨.value x, xs.toArray, tys⟩, ty, pos, aft, g⟩ ρ w R' := by
  obtain ⟨v, w', hr, hs⟩ := hc.call
  refine (does_enter (g := G) (args := (vs ++ cap).toArray) rfl ?_ hs).e hr
  simp [execOp, resolve, hx, Deferred.ofValue, invoke, hG, ← hv]
/-- A function value is made. -/
theorem mkFunc {ρ : Operand → Value} {G : FuncId} {cap : List Operand} {vs : List Value} (hv : cap.map ρ = vs) : Does P ⟨dst, .makeFunc (.func G) #[] cap.toArray, ty, pos, aft, g⟩ ρ w (.func (.func G) #[] vs.toArray) w :=
  does_run rfl (by simp [execOp, Instr.makeFunc, ← hv])

/-- A call of which one doesn't know whether it panics (a function's frame). -/
theorem opCallO {f : FuncId} {G : FuncId} {args : Array Value} {o : Oper} {R' : Out → World → Prop} (hc : Call P G args w R') (hw : Wanted N E ops o.guard) (hd : dstOk N o.dst = true) (hp : plain o.op = true) (hr : (execOp E.ev o).run P w = .ok (.enter G args) w)
    (h : ∀ z w', R' z w' → match z with | .ret v => Ops P f N none ops l k (E.put o.dst v) D w' R | .pan ch => Unw P f N (.panicking ch) E D w' R) : Ops P f N none ops (o :: l) k E D w R := by
  obtain ⟨z, w1, hz, hs⟩ := hc
  cases z with
  | ret v => exact opw hw hd (does_enter hp hr hs) (h _ w1 hz)
  | pan ch =>
    intro idx hi
    cases idx with
    | nil => simp at hi
    | cons i rest =>
      simp only [List.map_cons, List.cons.injEq] at hi
      obtain ⟨o', w', r, s⟩ := h _ w1 hz
      refine ⟨o', w', r, fun kind cs tmps hcs ht => ?_⟩
      obtain ⟨fr', s1, hm, hdf, hk, hf, fn, hfn⟩ := hs .normal (Fm f none kind tmps (.inRegion ops (i :: rest) :: k) D .run :: cs)
      obtain ⟨fr, s2, hl⟩ := s kind cs tmps (.inRegion ops (i :: rest) :: k) ht
      refine ⟨_, .head (step_lone_go ?_) (s1.trans (.head (step_lone_go ?_) s2)), fr, rfl, hl⟩
      · rw [stepG_op' (fr := Fm f none kind tmps (.inRegion ops (i :: rest) :: k) D .run) rfl rfl hi.1 (hw tmps ht o rfl) hp, frame_eval, ht.eval]
        simp only [stepG.apply, Sem.runT_eq, hr, GStep.bare_after, if_true]
        rfl
      · simp [stepG, unwind, Frame.catches, hm, hdf, hf, hfn, Frame.raise]

/-- 'panic(x)', x an interface value that is not nil. -/
theorem opPanic {f : FuncId} {x : Operand} {T : TypeId} {v : Value} (hw : Wanted N E ops g) (hx : E.ev x = .iface T v) (h : Unw P f N (.panicking [{ v := .iface T v, recovered := false }]) E D w R) : Ops P f N none ops (⟨dst, .panic x, ty, pos, aft, g⟩ :: l) k E D w R := by
  intro idx hi
  cases idx with
  | nil => simp at hi
  | cons i rest =>
    simp only [List.map_cons, List.cons.injEq] at hi
    obtain ⟨o', w', r, s⟩ := h
    refine ⟨o', w', r, fun kind cs tmps hcs ht => ?_⟩
    obtain ⟨fr, s2, hl⟩ := s kind cs tmps (.inRegion ops (i :: rest) :: k) ht
    refine ⟨_, .head (step_lone_go ?_) s2, fr, rfl, hl⟩
    rw [stepG_op' (fr := Fm f none kind tmps (.inRegion ops (i :: rest) :: k) D .run) rfl rfl hi.1 (hw tmps ht _ rfl) rfl, frame_eval, ht.eval]
    simp [stepG.apply, execOp, hx, Instr.panic, goPanic, Sem.run, Frame.raise]
theorem mkIface {ρ : Operand → Value} {T : TypeId} {x : Operand} {v : Value} {d : TypeDesc} (hT : P.underlying T = some d) (hd : (match d with | .interface _ => false | _ => true) = true) (hx : ρ x = v) : Does P ⟨dst, .makeInterface T x, ty, pos, aft, g⟩ ρ w (.iface T v) w :=
  does_run rfl (by
    cases d <;> first | (cases hd; done) | simp [execOp, hx, Instr.makeInterface, run_underlying hT])

/-! ### 2. Slice literals; []byte(s) -/
/-- '[]T{x}', elements of one cell. -/
theorem lit1E {ρ : Operand → Value} {α : Type} {K : Kd α} {lo hi : Nat} {T e : TypeId} {z : Value} {x : Operand} {v : Value} {y : α} (hT : P.underlying T = some (.slice e)) (hs : ∀ w, (sizeOf e).run P w = .ok 1 w) (hz : ∀ w, (zeroValue e).run P w = .ok z w) (hz1 : z.oneCell' = true) (hx : ρ x = v) (hy : K.R lo hi w y [v]) :
    DoesE P ⟨dst, .buildSlice T 1 #[(0, x)], ty, pos, aft, g⟩ ρ w fun v' w' => v' = .slice (some ⟨w.heap.size, 0, none⟩) 1 1 ∧ Sl K (min lo w.heap.size) (max hi (w.heap.size + 1)) w' (some ⟨w.heap.size, 0, none⟩) 1 [y] ∧ Blk w' w.heap.size [v] e ∧ Keep w w' ∧ w'.heap.size = w.heap.size + 1 := by
  have h1 := K.one hy v (by simp)
  have hv : v.cells = #[v] := by cases v <;> first | rfl | cases h1
  have hzc : z.cells = #[z] := by cases z <;> first | rfl | cases hz1
  have hsz : K.sz = 1 := by have := K.len hy; simpa using this.symm
  have hB := Blk.new w [v] e
  have hk := Keep.alloc w (.cells #[v] e)
  have hfill : Instr.fill (fun i => some (i, 1)) #[z] [(0, v)] = some #[v] := by
    simp [Instr.fill, hv]
  have hrun : (Instr.buildSlice T 1 #[(0, v)]).run P w = .ok (.slice (some ⟨w.heap.size, 0, none⟩) 1 1) (w.alloc (.cells #[v] e)) := by
    have hr : (Array.range 1).map (fun x => [z][x % 1]?.getD default) = #[z] := by
      have h0 : Array.range 0 = #[] := rfl
      simp [Array.range_succ, h0]
    simp [Instr.buildSlice, run_underlying hT, hs, hz, hzc, newRow, hr, hfill]
  refine (does_run (w' := w.alloc (.cells #[v] e)) rfl (by simp [execOp, hx, hrun])).e ⟨rfl, ?_, hB, hk, by simp⟩
  refine ⟨rfl, by omega, fun _ => ⟨_, rfl, by simp only []; omega, by simp only []; omega, fun j x hx => ?_⟩⟩
  match j, hx with
  | 0, hx =>
    simp at hx
    subst hx
    refine ⟨[v], K.wide (K.move hy (hk.stand fun _ _ _ => id)) (by omega) (by omega), fun i u hu => ?_⟩
    match i, hu with
    | 0, hu =>
      simp at hu
      subst hu
      rw [add_mk, hB.cell]
      simp
/-- '[]byte(s)'. -/
theorem bytesE {ρ : Operand → Value} {S T e : TypeId} {d : TypeDesc} {x : Operand} {s : ByteArray} {K : Kd UInt8} (hS : P.underlying S = some d) (hT : P.underlying T = some (.slice e)) (he : P.underlying e = some (.int .u8)) (hx : ρ x = .string s) (hsz : s.size ≤ 9223372036854775807) (hK : K.sz = 1) (hR : ∀ lo hi w (y : UInt8), K.R lo hi w y [.int .u8 (y.toNat : Int)]) :
    DoesE P ⟨dst, .convert S T x, ty, pos, aft, g⟩ ρ w fun v w' => ∃ c, v = .slice (some ⟨w.heap.size, 0, none⟩) s.size c ∧ s.size ≤ c ∧ Sl K w.heap.size (w.heap.size + 1) w' (some ⟨w.heap.size, 0, none⟩) s.size s.data.toList ∧ Keep w w' ∧ w'.heap.size = w.heap.size + 1 := by
  have hr := Lib.run_convert_string_bytes (P := P) w S T e s hS hT he
  refine (does_run (w' := Lib.bytesWorld w e s) rfl (by simp [execOp, hx, hr])).e ⟨_, rfl, grownCap_ge w s.size 0 e, ?_, ⟨rfl, rfl, rfl, by rw [Lib.bytesWorld_size]; omega, fun k hk _ => Lib.bytesWorld_at_old w e s k hk⟩, Lib.bytesWorld_size w e s⟩
  refine ⟨by rw [Array.length_toList]; rfl, hsz, fun _ => ⟨_, rfl, Nat.le_refl _, Nat.lt_succ_self _, fun j y hy => ⟨[.int .u8 (y.toNat : Int)], hR _ _ _ y, fun i u hu => ?_⟩⟩⟩
  have hj : j < s.size := by
    have := (List.getElem?_eq_some_iff.1 hy).1
    rw [Array.length_toList] at this
    exact this
  match i, hu with
  | 0, hu =>
    simp only [List.getElem?_cons_zero, Option.some.injEq] at hu
    subst hu
    rw [add_mk, hK, Nat.zero_add, Nat.mul_one, Nat.add_zero, Lib.bytesWorld_cell w e s j hj, List.getD_eq_getElem?_getD, hy]
    rfl

end
end Go.Proofs.Ytgfficbkajcdpaa.X
