/- Strings, structs as values, more literals. -/
import Derived.Test.YtgfficbkajcdpaaXDraw
namespace Go.Proofs.Ytgfficbkajcdpaa.X
open Go

theorem str_eq (a b : ByteArray) : (a.toList == b.toList) = decide (a = b) := by
  by_cases h : a = b
  · subst h; simp
  · rw [ByteArray.toList_eq, ByteArray.toList_eq]
    have h2 : decide (a = b) = false := decide_eq_false h
    rw [h2]
    exact beq_eq_false_iff_ne.2 fun e => h (Go.WideShapes.bytes_inj e)

section
variable {P : Program} {ρ : Operand → Value} {w : World} {dst : Option Tmp} {ty : TypeId} {pos : String} {aft : Array Edge} {g : Option (Nat × Bool)}
theorem eqD {T T' : TypeId} {x y : Operand} {a b : ByteArray} (hx : ρ x = .string a) (hy : ρ y = .string b) : Does P ⟨dst, .binOp .eql T x y T', ty, pos, aft, g⟩ ρ w (.bool (decide (a = b))) w := by
  rw [← str_eq]; exact eqS hx hy
theorem neD {T T' : TypeId} {x y : Operand} {a b : ByteArray} (hx : ρ x = .string a) (hy : ρ y = .string b) : Does P ⟨dst, .binOp .neq T x y T', ty, pos, aft, g⟩ ρ w (.bool (decide (a ≠ b))) w := by
  have : decide (a ≠ b) = !decide (a = b) := by by_cases h : a = b <;> simp [h]
  rw [this, ← str_eq]; exact neS hx hy
theorem ltD {T T' : TypeId} {x y : Operand} {a b : ByteArray} (hx : ρ x = .string a) (hy : ρ y = .string b) : Does P ⟨dst, .binOp .lss T x y T', ty, pos, aft, g⟩ ρ w (.bool (Op.bytesLess a.data.toList b.data.toList)) w := by
  rw [← ByteArray.toList_eq, ← ByteArray.toList_eq]; exact ltS hx hy
theorem catS {T T' : TypeId} {x y : Operand} {a b : ByteArray} (hx : ρ x = .string a) (hy : ρ y = .string b) (h : a.size + b.size ≤ 9223372036854775807) : Does P ⟨dst, .binOp .add T x y T', ty, pos, aft, g⟩ ρ w (.string (a ++ b)) w :=
  does_run rfl (by
    have hm : IntKind.i64.max = 9223372036854775807 := rfl
    have : ¬ (((a.size + b.size : Nat) : Int) > IntKind.i64.max) := by omega
    simp only [execOp, hx, hy, binOp, eqGuard, Op.stringOp]
    rw [if_neg this]
    simp)
/-- 's[:m]'. -/
theorem cutSH {T : TypeId} {x h : Operand} {s : ByteArray} {kh : IntKind} {m : Int} (hT : P.underlying T = some .string) (hx : ρ x = .string s) (hh : ρ h = .int kh m) (h0 : 0 ≤ m ∧ m ≤ (s.size : Int)) :
    Does P ⟨dst, .slice T x none (some h) none, ty, pos, aft, g⟩ ρ w (.string (s.extract 0 m.toNat)) w :=
  does_run rfl (by
    simp [execOp, hx, hh, run_sliceAt_string _ _ _ _ _ _ hT, Instr.slice, run_underlying hT, Instr.sliceBounds, Instr.sliceBound, asIntOf, h0.1, h0.2])
/-- '==' of structs, by its fields' own answer. -/
theorem eqA {T T' : TypeId} {x y : Operand} {xs ys : Array Value} {b : Bool} (hg : P.eqGuardType P.depth T = false) (hx : ρ x = .agg xs) (hy : ρ y = .agg ys) (he : (Op.equalIn 10000 T (.agg xs) (.agg ys)).run P w = .ok b w) : Does P ⟨dst, .binOp .eql T x y T', ty, pos, aft, g⟩ ρ w (.bool b) w :=
  does_run rfl (by simp [execOp, hx, hy, run_eqGuard_agg w .eql T x y xs ys hg, run_eql_struct, he, Result.andThen])
theorem neA {T T' : TypeId} {x y : Operand} {xs ys : Array Value} {b : Bool} (hg : P.eqGuardType P.depth T = false) (hx : ρ x = .agg xs) (hy : ρ y = .agg ys) (he : (Op.equalIn 10000 T (.agg xs) (.agg ys)).run P w = .ok b w) : Does P ⟨dst, .binOp .neq T x y T', ty, pos, aft, g⟩ ρ w (.bool (!b)) w :=
  does_run rfl (by simp [execOp, hx, hy, run_eqGuard_agg w .neq T x y xs ys hg, run_neq_struct, he, Result.andThen])
/-- A struct literal, by what its operation comes to. -/
theorem build {T : TypeId} {ps : Array (Nat × Operand)} {v : Value} (h : ∀ w, (Instr.build T (ps.map fun (i, x) => (i, ρ x))).run P w = .ok v w) : Does P ⟨dst, .build T ps, ty, pos, aft, g⟩ ρ w v w :=
  does_run rfl (by simp only [execOp]; simp [h])
/-- A slice literal of whatever elements, by what its parts fill. -/
theorem litNE {α : Type} {K : Kd α} {lo hi : Nat} {T e : TypeId} {n : Nat} {z : Value} {ps : Array (Nat × Operand)} {cs : List Value} {ys : List α} (hT : P.underlying T = some (.slice e)) (hs : ∀ w, (sizeOf e).run P w = .ok K.sz w) (hz : ∀ w, (zeroValue e).run P w = .ok z w) (h24 : n * K.sz ≤ 16777216) (h0 : 0 < n * K.sz)
    (hfill : Instr.fill (fun i => some (i * K.sz, K.sz)) ((Array.range (n * K.sz)).map (z.cells[· % z.cells.size]!)) (ps.map fun (i, x) => (i, ρ x)).toList = some cs.toArray) (hr : Reps K lo hi w ys cs) (hn : ys.length = n) :
    DoesE P ⟨dst, .buildSlice T n ps, ty, pos, aft, g⟩ ρ w fun v' w' => v' = .slice (some ⟨w.heap.size, 0, none⟩) n n ∧ Sl K (min lo w.heap.size) (max hi (w.heap.size + 1)) w' (some ⟨w.heap.size, 0, none⟩) n ys ∧ Blk w' w.heap.size cs e ∧ Keep w w' ∧ w'.heap.size = w.heap.size + 1 := by
  have hB := Blk.new w cs e
  have hk := Keep.alloc w (.cells cs.toArray e)
  have hrun : (Instr.buildSlice T n (ps.map fun (i, x) => (i, ρ x))).run P w = .ok (.slice (some ⟨w.heap.size, 0, none⟩) n n) (w.alloc (.cells cs.toArray e)) := by
    have h1 : ¬ (n * K.sz > 2 ^ 24) := by omega
    have h2 : ¬ (n * K.sz = 0) := by omega
    simp only [Instr.buildSlice, Sem.run_bind, run_underlying hT, Result.andThen_ok, hs, if_neg h1, if_neg h2, hz, Sem.run_pure, hfill]
    simp [newRow]
  refine (does_run (w' := w.alloc (.cells cs.toArray e)) rfl ?_).e ⟨rfl, ?_, hB, hk, by simp⟩
  · simp only [execOp]
    simp only [Sem.run_bind, hrun, Result.andThen_ok, Sem.run_pure]
  · refine ⟨hn, by have hk1 : 1 ≤ K.sz := Nat.pos_of_ne_zero (fun e => by rw [e] at h0; omega); have := Nat.le_mul_of_pos_right n hk1; omega, fun _ => ⟨_, rfl, by simp only []; omega, by simp only []; omega, fun j x hx => ?_⟩⟩
    obtain ⟨a, ha, hq⟩ := hr.get j x hx
    refine ⟨a, K.wide (K.move ha (hk.stand fun _ _ _ => id)) (by omega) (by omega), fun i u hu => ?_⟩
    rw [add_mk, hB.cell, Nat.zero_add]
    exact hq i u hu
end

section
variable {P : Program} {f : FuncId} {N : Nat} {rd : Option Nat} {k : List Item} {E : Env} {D : List Deferred} {w : World} {R : Out → World → Prop} {ops : Array Oper} {S : Nat → Prop} {m : Nat}
/-- The guard itself was passed over: so is this. -/
theorem opU {l : List Oper} {o : Oper} {j d : Nat} {b : Bool} (hg : o.guard = some (j, b)) (hj : (ops[j]?).bind (·.dst) = some d) (hb : E.ev (.tmp d) = undef) (hd : dstOk N o.dst = true)
    (h : Ops P f N rd ops l k (E.put o.dst undef) D w R) : Ops P f N rd ops (o :: l) k E D w R := by
  intro idx hi
  cases idx with
  | nil => simp at hi
  | cons i rest =>
    simp only [List.map_cons, List.cons.injEq] at hi
    obtain ⟨z, w2, r, s⟩ := h rest hi.2
    refine ⟨z, w2, r, fun kind cs tmps hc ht => ?_⟩
    have hw : Region.wanted o (yielded ops tmps) = false := by
      have h1 : tmps.getD d undef = undef := (ht.at_ d).trans hb
      simp only [Region.wanted, hg, yielded, hj, Option.bind_some]
      by_cases hlt : d < tmps.size
      · have h2 : tmps[d]? = some undef := by
          rw [Array.getElem?_eq_getElem hlt]
          simpa [Array.getD, hlt] using h1
        rw [h2]
        rfl
      · rw [Array.getElem?_eq_none (by omega)]
        rfl
    obtain ⟨m, h2, h3⟩ := s kind cs _ hc (ht.put' o.dst undef (dstOk.lt hd))
    refine ⟨m, .head (step_lone_go ?_) h2, h3⟩
    rw [← finish_region f rd kind tmps ops i rest k D o hi.1]
    simp [stepG, stepG.exec, hi.1, hw]
theorem dSkU {fuel : Nat} {listed : Array Bool} {i : Nat} {o : Oper} {j d : Nat} {b : Bool} (hr : Region.ready .any ops listed = [i]) (ho : ops[i]? = some o) (hg : o.guard = some (j, b)) (hj : (ops[j]?).bind (·.dst) = some d) (hb : E.ev (.tmp d) = undef)
    (h : Drw P f N rd ops k D R S m fuel (listed.setIfInBounds i true) (E.put o.dst undef) w) : Drw P f N rd ops k D R S m (fuel + 1) listed E w := by
  refine ⟨fun he => absurd (hr.symm.trans he) (by simp), fun q hq => ?_⟩
  rw [hr] at hq
  obtain rfl : q = i := by simpa using hq
  refine ⟨o, ho, ?_⟩
  have : E.at_ d = undef := hb
  rw [if_neg]
  · unfold Drw at h
    rw [put_upd] at h
    exact h
  · simp only [wantG, Region.wanted, hg, yieldG, hj, this]
    simp [undef]
end
end Go.Proofs.Ytgfficbkajcdpaa.X
