/- Rows of the call's own, told by a set of blocks. -/
import Derived.Test.YtgfficbkajcdpaaXCalls
namespace Go.Proofs.Ytgfficbkajcdpaa.X
open Go

/-- Data that its cells tell by themselves, whatever the world. -/
def Flat {α : Type} (K : Kd α) : Prop := ∀ {lo hi lo' hi' w w' x cs}, K.R lo hi w x cs → K.R lo' hi' w' x cs
theorem flat_plain {α : Type} {sz : Nat} {enc : α → List Value} {ok : α → Prop} {hl : ∀ x, (enc x).length = sz} {h1 : ∀ x u, u ∈ enc x → u.oneCell' = true} : Flat (Kd.plain sz enc ok hl h1) := fun h => h
theorem Reps.flat {α : Type} {K : Kd α} (hF : Flat K) {lo hi lo' hi' : Nat} {w w' : World} : ∀ {xs : List α} {cs : List Value}, Reps K lo hi w xs cs → Reps K lo' hi' w' xs cs
  | [], _, h => h
  | _ :: _, _, ⟨a, b, e, h1, h2⟩ => ⟨a, b, e, hF h1, Reps.flat hF h2⟩

/-- Bytes. -/
def KB : Kd UInt8 := Kd.plain 1 (fun c => [.int .u8 (c.toNat : Int)]) (fun _ => True) (fun _ => rfl) (fun _ u hu => by simp at hu; subst hu; rfl)
theorem KB_flat : Flat KB := fun h => h
theorem KB_R (lo hi : Nat) (w : World) (y : UInt8) : KB.R lo hi w y [.int .u8 (y.toNat : Int)] := ⟨rfl, trivial⟩
theorem KB_is {lo hi : Nat} {w : World} (y : UInt8) (cs : List Value) (h : KB.R lo hi w y cs) : cs = [.int .u8 (y.toNat : Int)] := h.1
theorem KB_0 {lo hi : Nat} {w : World} {y : UInt8} (cs : List Value) (h : KB.R lo hi w y cs) : cs[0]? = some (.int .u8 (y.toNat : Int)) := by rw [h.1]; rfl
/-- Ints. -/
def KI : Kd Int := Kd.plain 1 (fun c => [.int .i64 c]) (fun n => -9223372036854775808 ≤ n ∧ n ≤ 9223372036854775807) (fun _ => rfl) (fun _ u hu => by simp at hu; subst hu; rfl)
theorem KI_flat : Flat KI := fun h => h

/-- v: a row of the call's own, in one of the blocks of S. -/
def Mine {α : Type} (K : Kd α) (e : TypeId) (S : Nat → Prop) (lo hi : Nat) (w : World) (v : Value) (xs : List α) : Prop := ∃ b, Own K e b lo hi w v xs ∧ ∀ k, b = some k → S k

section
variable {α : Type} {K : Kd α} {e : TypeId} {S T : Nat → Prop} {lo hi : Nat} {w w' : World} {v : Value} {xs : List α}
theorem Mine.nil (K : Kd α) (e : TypeId) (S : Nat → Prop) (lo hi : Nat) (w : World) : Mine K e S lo hi w (.slice none 0 0) [] := ⟨none, Own.nil K e lo hi w, fun _ h => by cases h⟩
theorem Mine.slice (h : Mine K e S lo hi w v xs) : ∃ A c, v = .slice A xs.length c ∧ xs.length ≤ c ∧ xs.length ≤ 9223372036854775807 := let ⟨_, h, _⟩ := h; h.slice
theorem Mine.ext (h : Mine K e S lo hi w v xs) (x : Ext T w w') (hT : ∀ k, lo ≤ k → k < hi → ¬ T k) (hS : ∀ k, S k → ¬ T k) : Mine K e S lo hi w' v xs := let ⟨b, h, hb⟩ := h; ⟨b, h.ext x hT (fun k hk => hS k (hb k hk)), hb⟩
theorem Mine.keep (h : Mine K e S lo hi w v xs) (x : Keep w w') : Mine K e S lo hi w' v xs := let ⟨b, h, hb⟩ := h; ⟨b, h.keep x, hb⟩
theorem Mine.mono (h : Mine K e S lo hi w v xs) (hS : ∀ k, k < w.heap.size → S k → T k) : Mine K e T lo hi w v xs := let ⟨b, h, hb⟩ := h; ⟨b, h, fun k hk => hS k (h.lt k hk) (hb k hk)⟩
theorem Mine.wide (h : Mine K e S lo hi w v xs) {lo' hi' : Nat} (hl : lo' ≤ lo) (hh : hi ≤ hi') : Mine K e S lo' hi' w v xs := let ⟨b, h, hb⟩ := h; ⟨b, h.wide hl hh, hb⟩
theorem Mine.sl (h : Mine K e S lo hi w v xs) (hS : ∀ k, k < w.heap.size → S k → lo ≤ k ∧ k < hi) : ∃ A c, v = .slice A xs.length c ∧ xs.length ≤ c ∧ Sl K lo hi w A xs.length xs := let ⟨_, h, hb⟩ := h; h.sl fun k hk => hS k (h.lt k hk) (hb k hk)
theorem Own.flat (hF : Flat K) {b : Option Nat} {lo' hi' : Nat} (h : Own K e b lo hi w v xs) : Own K e b lo' hi' w v xs := let ⟨⟨cs, hr, ho⟩, hb⟩ := h; ⟨⟨cs, hr.flat hF, ho⟩, hb⟩
theorem Mine.flat (hF : Flat K) {lo' hi' : Nat} (h : Mine K e S lo hi w v xs) : Mine K e S lo' hi' w v xs := let ⟨b, h, hb⟩ := h; ⟨b, h.flat hF, hb⟩
/-- Read, of flat data: in the blocks from lo' to the world's end. -/
theorem Mine.slF (hF : Flat K) (h : Mine K e S lo hi w v xs) (lo' : Nat) (hS : ∀ k, S k → lo' ≤ k) : ∃ A c, v = .slice A xs.length c ∧ xs.length ≤ c ∧ Sl K lo' w.heap.size w A xs.length xs := (h.flat hF (lo' := lo') (hi' := w.heap.size)).sl fun k hk hs => ⟨hS k hs, hk⟩
end

section
variable {P : Program} {f : FuncId} {N : Nat} {rd : Option Nat} {k : List Item} {E : Env} {D : List Deferred} {w : World} {R : Out → World → Prop} {ops : Array Oper} {l : List Oper} {dst : Option Tmp} {ty : TypeId} {pos : String} {aft : Array Edge} {g : Option (Nat × Bool)}
/-- The element type's row of the table. -/
structure ElemInfo (P : Program) (e sz bytes : Nat) : Prop where
  ex : ∃ i z, P.info? e = some i ∧ i.zero = some z ∧ i.size = sz ∧ i.bytes = bytes ∧ z.cells.size = sz
  pos : 0 < sz
  bpos : 0 < bytes
theorem ElemInfo.of {P : Program} {e sz bytes : Nat} {z : Value} (h : (P.info? e).map (fun i => (i.zero, i.size, i.bytes)) = some (some z, sz, bytes)) (hz : z.cells.size = sz) (h0 : Nat.blt 0 sz = true) (h1 : Nat.blt 0 bytes = true) : ElemInfo P e sz bytes := by
  obtain ⟨i, hi, hq⟩ := Option.map_eq_some_iff.1 h
  simp only [Prod.mk.injEq] at hq
  exact ⟨⟨i, z, hi, hq.1, hq.2.1, hq.2.2, hz⟩, blt_lt h0, blt_lt h1⟩

/-- 'append(v, x..)', flat data. -/
theorem appE {ρ : Operand → Value} {α : Type} {K : Kd α} {e T : TypeId} {bytes : Nat} {S : Nat → Prop} {lo' hi' : Nat} {s x : Operand} {v : Value} {xs ys : List α} {A : Option Addr} {m c : Nat} (hF : Flat K) (hT : P.underlying T = some (.slice e)) (hI : ElemInfo P e K.sz bytes)
    (hs : ρ s = v) (hx : ρ x = .slice A m c) (hO : Mine K e S 0 0 w v xs) (hS : Sl K lo' hi' w A m ys) (hmax : (xs.length + ys.length) * bytes ≤ 140737488355328) (hfr : ∀ k, w.heap.size ≤ k → S k) :
    DoesE P ⟨dst, .call ⟨.builtin .append, #[s, x], #[T, T]⟩, ty, pos, aft, g⟩ ρ w fun v' w' => Mine K e S 0 0 w' v' (xs ++ ys) ∧ Ext S w w' := by
  obtain ⟨⟨i, z, h1, h2, h3, h4, h5⟩, h6, h7⟩ := hI
  obtain ⟨b, ho, hb⟩ := hO
  obtain ⟨⟨cs, hr, hrow⟩, hbb⟩ := ho
  obtain ⟨ds, hr', hcells⟩ := hS.reps
  have hlen : xs.length + ys.length ≤ 140737488355328 := Nat.le_trans (Nat.le_mul_of_pos_right _ h7) hmax
  have hm : ys.length = m := hS.len
  have key : ∃ v1 w1, (Builtin.append_ #[T, T] ty #[v, .slice A m c]).run P w = .ok v1 w1 ∧ w1.ownsRow 0 e K.sz v1 (xs.length + m) (cs ++ ds) ∧ w.grownBy w1 v.ownBlock ∧ (v1.ownBlock = v.ownBlock ∨ v1.ownBlock = some w.heap.size) := by
    cases A with
    | none =>
      have hm0 : m = 0 := by
        rcases Nat.eq_zero_or_pos m with h | h
        · exact h
        · obtain ⟨ad, e', _⟩ := hS.at_ h
          cases e'
      subst hm0
      have hy : ys = [] := List.eq_nil_of_length_eq_zero hm
      subst hy
      have hds : ds = [] := hr'
      subst hds
      refine ⟨v, w, ?_, by simpa using hrow, World.grownBy.refl w _, .inl rfl⟩
      rcases hrow.2 with ⟨rfl, hn⟩ | ⟨g', cap, cur, rfl, _, _, hnc, _⟩
      · simp [Builtin.append_, run_underlying hT, sizeOf, typeInfo, h1, Builtin.lenOf, Builtin.firstCells]
      · simp [Builtin.append_, run_underlying hT, sizeOf, typeInfo, h1, Builtin.lenOf, Builtin.firstCells, hnc, storeCells]
    | some ad =>
      obtain ⟨v1, w1, q1, q2, q3, _, q5⟩ := run_append_own_at (P := P) (w := w) 0 T ty e i z K.sz bytes hT h1 h2 h3 h4 h5 h6 v xs.length cs hrow ad m c ds (by rw [hr'.length, hm]) (hcells ad rfl) hr'.one (by simp only [maxLen]; omega) (by rw [← hm]; exact hmax) (Nat.zero_le _)
      exact ⟨v1, w1, q1, q2, q3, q5⟩
  obtain ⟨v1, w1, hrun, hown, hg, hat⟩ := key
  have hext : Ext S w w1 := (Ext.of_grown hg).mono fun k _ hk => hb k (by rw [← hbb]; exact hk)
  refine (does_run (w' := w1) rfl (by simp only [execOp, resolve, invoke, builtin, List.map_toArray, List.map_cons, List.map_nil, hs, hx]; simp [hrun])).e ⟨⟨v1.ownBlock, ⟨⟨cs ++ ds, ?_, by rw [List.length_append, hm]; exact hown⟩, rfl⟩, ?_⟩, hext⟩
  · exact Reps.app (hr.flat hF) (hr'.flat hF)
  · intro k hk
    rcases hat with hat | hat
    · exact hb k (by rw [← hbb, ← hat]; exact hk)
    · rw [hat] at hk
      cases hk
      exact hfr _ (Nat.le_refl _)
end
end Go.Proofs.Ytgfficbkajcdpaa.X
