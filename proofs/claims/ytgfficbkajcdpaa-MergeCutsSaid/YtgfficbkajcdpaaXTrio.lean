/- Three rows of the call's own, side by side: bytes, numbers, pieces. -/
import Derived.Test.YtgfficbkajcdpaaXPiece
namespace Go.Proofs.Ytgfficbkajcdpaa.X
open Go
set_option linter.unusedVariables false
set_option linter.unusedSimpArgs false

/-- Numbers. -/
def KNt : Kd Nat := Kd.plain 1 (fun c => [.int .i64 (c : Int)]) (fun _ => True) (fun _ => rfl) (fun _ u hu => by simp at hu; subst hu; rfl)
theorem KNt_flat : Flat KNt := fun h => h
theorem KNt_R (lo hi : Nat) (w : World) (y : Nat) : KNt.R lo hi w y [.int .i64 (y : Int)] := ⟨rfl, trivial⟩
theorem repsNt {w : World} (y : Nat) : RepsV KNt w [y] [.int .i64 (y : Int)] := ⟨⟨_, rfl, KNt_R 0 0 w y⟩, trivial⟩
section
variable {P : Program} {ρ : Operand → Value} {w : World} {dst : Option Tmp} {ty : TypeId} {pos : String} {aft : Array Edge} {g : Option (Nat × Bool)}
/-- 'append(v, x..)', the row's set told: it grows by the new blocks. -/
theorem appRow {α : Type} {K : Kd α} {e T : TypeId} {bytes : Nat} {S : Nat → Prop} {lo' hi' : Nat} {s x : Operand} {v : Value} {xs ys : List α} {A : Option Addr} {m c : Nat} (hF : Flat K) (hT : P.underlying T = some (.slice e)) (hI : ElemInfo P e K.sz bytes)
    (hs : ρ s = v) (hx : ρ x = .slice A m c) (hO : Mine K e S 0 0 w v xs) (hb : ∀ k, S k → k < w.heap.size) (hS : Sl K lo' hi' w A m ys) (hmax : (xs.length + ys.length) * bytes ≤ 140737488355328) :
    DoesE P ⟨dst, .call ⟨.builtin .append, #[s, x], #[T, T]⟩, ty, pos, aft, g⟩ ρ w fun v' w' => Mine K e (fun k => S k ∨ (w.heap.size ≤ k ∧ k < w'.heap.size)) 0 0 w' v' (xs ++ ys) ∧ Ext S w w' := by
  refine (appE (S := fun k => S k ∨ w.heap.size ≤ k) hF hT hI hs hx (hO.mono fun k _ h => .inl h) hS hmax (fun k h => .inr h)).mono fun v' w' ⟨h1, h2⟩ => ⟨h1.mono fun k hk h => h.elim .inl fun h => .inr ⟨h, hk⟩, ?_⟩
  exact h2.mono fun k hk h => h.elim id fun h => by omega
end

/-- Bytes, numbers and pieces (these with bytes in blocks below base), each in blocks of its own. -/
structure BK3 (tb ti tp base m1 m2 m3 : Nat) (S1 S2 S3 : Nat → Prop) (w : World) (va ve vp : Value) (la : List UInt8) (le : List Nat) (ps : List PCE) : Prop where
  a : Mine KB tb S1 0 0 w va la
  e : Mine KNt ti S2 0 0 w ve le
  p : ∃ vs, Mine (KRN 2) tp S3 0 0 w vp vs ∧ PData (fun k => k < base) w vs ps
  s1 : ∀ k, S1 k → base ≤ k ∧ k < m1
  s2 : ∀ k, S2 k → base ≤ k ∧ k < m2
  s3 : ∀ k, S3 k → base ≤ k ∧ k < m3
  l1 : m1 ≤ w.heap.size
  l2 : m2 ≤ w.heap.size
  l3 : m3 ≤ w.heap.size
  d12 : ∀ k, S1 k → ¬ S2 k
  d13 : ∀ k, S1 k → ¬ S3 k
  d23 : ∀ k, S2 k → ¬ S3 k
  b : base ≤ w.heap.size
section
variable {tb ti tp base m1 m2 m3 : Nat} {S1 S2 S3 : Nat → Prop} {w w' : World} {va ve vp : Value} {la : List UInt8} {le : List Nat} {ps : List PCE}
theorem BK3.nil (tb ti tp base m : Nat) (w : World) (hb : base ≤ w.heap.size) (hm : m ≤ w.heap.size) : BK3 tb ti tp base m m m (fun _ => False) (fun _ => False) (fun _ => False) w (.slice none 0 0) (.slice none 0 0) (.slice none 0 0) [] [] [] :=
  ⟨Mine.nil _ _ _ _ _ _, Mine.nil _ _ _ _ _ _, ⟨[], Mine.nil _ _ _ _ _ _, trivial⟩, fun _ h => h.elim, fun _ h => h.elim, fun _ h => h.elim, hm, hm, hm, fun _ h => h.elim, fun _ h => h.elim, fun _ h => h.elim, hb⟩
theorem BK3.keep (h : BK3 tb ti tp base m1 m2 m3 S1 S2 S3 w va ve vp la le ps) (x : Keep w w') : BK3 tb ti tp base m1 m2 m3 S1 S2 S3 w' va ve vp la le ps := by
  obtain ⟨a, e, ⟨vs, p, q⟩, s1, s2, s3, l1, l2, l3, d12, d13, d23, b⟩ := h
  have hz := x.size
  exact ⟨a.keep x, e.keep x, ⟨vs, p.keep x, q.move (fun _ h => h) fun k _ hk => x.keep k hk id⟩, s1, s2, s3, by omega, by omega, by omega, d12, d13, d23, by omega⟩
theorem BK3.ext (h : BK3 tb ti tp base m1 m2 m3 S1 S2 S3 w va ve vp la le ps) {T : Nat → Prop} (x : Ext T w w') (hT : ∀ k, T k → base ≤ k ∧ m1 ≤ k ∧ m2 ≤ k ∧ m3 ≤ k) : BK3 tb ti tp base m1 m2 m3 S1 S2 S3 w' va ve vp la le ps := by
  obtain ⟨a, e, ⟨vs, p, q⟩, s1, s2, s3, l1, l2, l3, d12, d13, d23, b⟩ := h
  have hz := x.size
  refine ⟨a.ext x (by intro k h1 h2; omega) ?_, e.ext x (by intro k h1 h2; omega) ?_, ⟨vs, p.ext x (by intro k h1 h2; omega) ?_, q.move (fun _ h => h) fun k hG hk => x.keep k hk ?_⟩, s1, s2, s3, by omega, by omega, by omega, d12, d13, d23, by omega⟩
  · intro k h1 h2; have := s1 k h1; have := hT k h2; omega
  · intro k h1 h2; have := s2 k h1; have := hT k h2; omega
  · intro k h1 h2; have := s3 k h1; have := hT k h2; omega
  · intro h2; have := hT k h2; have : k < base := hG; omega
/-- At a loop's head. -/
theorem BK3.all (h : BK3 tb ti tp base m1 m2 m3 S1 S2 S3 w va ve vp la le ps) : BK3 tb ti tp base w.heap.size w.heap.size w.heap.size S1 S2 S3 w va ve vp la le ps := by
  obtain ⟨a, e, p, s1, s2, s3, l1, l2, l3, d12, d13, d23, b⟩ := h
  exact ⟨a, e, p, fun k h => by have := s1 k h; omega, fun k h => by have := s2 k h; omega, fun k h => by have := s3 k h; omega, Nat.le_refl _, Nat.le_refl _, Nat.le_refl _, d12, d13, d23, b⟩
theorem BK3.rd (h : BK3 tb ti tp base m1 m2 m3 S1 S2 S3 w va ve vp la le ps) : ∃ A1 c1 A2 c2 A3 c3 vs, va = .slice A1 la.length c1 ∧ ve = .slice A2 le.length c2 ∧ vp = .slice A3 ps.length c3 ∧ la.length ≤ c1 ∧ le.length ≤ c2 ∧ ps.length ≤ c3 ∧
    Sl KB 0 w.heap.size w A1 la.length la ∧ Sl KNt 0 w.heap.size w A2 le.length le ∧ Sl (KRN 2) 0 w.heap.size w A3 ps.length vs ∧ PData (fun k => k < base) w vs ps := by
  obtain ⟨a, e, ⟨vs, p, q⟩, _⟩ := h
  obtain ⟨A1, c1, e1, g1, r1⟩ := a.slF KB_flat 0 (fun _ _ => Nat.zero_le _)
  obtain ⟨A2, c2, e2, g2, r2⟩ := e.slF KNt_flat 0 (fun _ _ => Nat.zero_le _)
  obtain ⟨A3, c3, e3, g3, r3⟩ := p.slF (KRN_flat 2) 0 (fun _ _ => Nat.zero_le _)
  have hl := q.len
  rw [hl] at e3 g3 r3
  exact ⟨A1, c1, A2, c2, A3, c3, vs, e1, e2, e3, g1, g2, g3, r1, r2, r3, q⟩
variable {P : Program} {ρ : Operand → Value} {dst : Option Tmp} {ty : TypeId} {pos : String} {aft : Array Edge} {g : Option (Nat × Bool)} {T : TypeId} {s x : Operand} {A : Option Addr} {n c lo hi bytes : Nat}
theorem BK3.appA {ys : List UInt8} (h : BK3 tb ti tp base m1 m2 m3 S1 S2 S3 w va ve vp la le ps) (hS : Sl KB lo hi w A n ys) (hT : P.underlying T = some (.slice tb)) (hI : ElemInfo P tb 1 bytes) (hs : ρ s = va) (hx : ρ x = .slice A n c) (hmax : (la.length + ys.length) * bytes ≤ 140737488355328) :
    DoesE P ⟨dst, .call ⟨.builtin .append, #[s, x], #[T, T]⟩, ty, pos, aft, g⟩ ρ w fun v' w' => ∃ A' c' S', v' = .slice A' (la ++ ys).length c' ∧ BK3 tb ti tp base w'.heap.size m2 m3 S' S2 S3 w' v' ve vp (la ++ ys) le ps ∧ Ext (fun k => base ≤ k ∧ k < m1) w w' := by
  obtain ⟨a, e, ⟨vs, p, q⟩, s1, s2, s3, l1, l2, l3, d12, d13, d23, b⟩ := h
  refine (appRow (K := KB) KB_flat hT hI hs hx a (fun k hk => by have := s1 k hk; omega) hS hmax).mono fun v' w' ⟨h1, h2⟩ => ?_
  obtain ⟨A', c', e1, _⟩ := h1.slice
  have hz := h2.size
  refine ⟨A', c', _, e1, ⟨h1, e.ext h2 (by intro k h1 h2; omega) (fun k h3 h4 => d12 k h4 h3), ⟨vs, p.ext h2 (by intro k h1 h2; omega) (fun k h3 h4 => d13 k h4 h3), q.move (fun _ h => h) fun k hG hk => h2.keep k hk fun h => ?_⟩, ?_, s2, s3, Nat.le_refl _, by omega, by omega, ?_, ?_, d23, by omega⟩, h2.mono fun k _ hk => s1 k hk⟩
  · have := s1 k h; have : k < base := hG; omega
  · rintro k (h | ⟨h, h'⟩)
    · have := s1 k h; omega
    · omega
  · rintro k (h | ⟨h, h'⟩) h3
    · exact d12 k h h3
    · have := s2 k h3; omega
  · rintro k (h | ⟨h, h'⟩) h3
    · exact d13 k h h3
    · have := s3 k h3; omega
theorem BK3.appN {ys : List Nat} (h : BK3 tb ti tp base m1 m2 m3 S1 S2 S3 w va ve vp la le ps) (hS : Sl KNt lo hi w A n ys) (hT : P.underlying T = some (.slice ti)) (hI : ElemInfo P ti 1 bytes) (hs : ρ s = ve) (hx : ρ x = .slice A n c) (hmax : (le.length + ys.length) * bytes ≤ 140737488355328) :
    DoesE P ⟨dst, .call ⟨.builtin .append, #[s, x], #[T, T]⟩, ty, pos, aft, g⟩ ρ w fun v' w' => ∃ A' c' S', v' = .slice A' (le ++ ys).length c' ∧ BK3 tb ti tp base m1 w'.heap.size m3 S1 S' S3 w' va v' vp la (le ++ ys) ps ∧ Ext (fun k => base ≤ k ∧ k < m2) w w' := by
  obtain ⟨a, e, ⟨vs, p, q⟩, s1, s2, s3, l1, l2, l3, d12, d13, d23, b⟩ := h
  refine (appRow (K := KNt) KNt_flat hT hI hs hx e (fun k hk => by have := s2 k hk; omega) hS hmax).mono fun v' w' ⟨h1, h2⟩ => ?_
  obtain ⟨A', c', e1, _⟩ := h1.slice
  have hz := h2.size
  refine ⟨A', c', _, e1, ⟨a.ext h2 (by intro k h1 h2; omega) (fun k h3 h4 => d12 k h3 h4), h1, ⟨vs, p.ext h2 (by intro k h1 h2; omega) (fun k h3 h4 => d23 k h4 h3), q.move (fun _ h => h) fun k hG hk => h2.keep k hk fun h => ?_⟩, s1, ?_, s3, by omega, Nat.le_refl _, by omega, ?_, d13, ?_, by omega⟩, h2.mono fun k _ hk => s2 k hk⟩
  · have := s2 k h; have : k < base := hG; omega
  · rintro k (h | ⟨h, h'⟩)
    · have := s2 k h; omega
    · omega
  · rintro k h3 (h | ⟨h, h'⟩)
    · exact d12 k h3 h
    · have := s1 k h3; omega
  · rintro k (h | ⟨h, h'⟩) h3
    · exact d23 k h h3
    · have := s3 k h3; omega
theorem BK3.appP {k : UInt8} {bs : List UInt8} {A2 : Option Addr} {n2 c2 lo2 hi2 : Nat} (h : BK3 tb ti tp base m1 m2 m3 S1 S2 S3 w va ve vp la le ps) (hS : Sl (KRN 2) lo hi w A n [.agg #[.int .u8 (k.toNat : Int), .slice A2 n2 c2]]) (hnc : n2 ≤ c2) (hB : hi2 ≤ base) (hD : Sl KB lo2 hi2 w A2 n2 bs) (hT : P.underlying T = some (.slice tp)) (hI : ElemInfo P tp 2 bytes) (hs : ρ s = vp) (hx : ρ x = .slice A n c) (hmax : (ps.length + 1) * bytes ≤ 140737488355328) :
    DoesE P ⟨dst, .call ⟨.builtin .append, #[s, x], #[T, T]⟩, ty, pos, aft, g⟩ ρ w fun v' w' => ∃ A' c' S', v' = .slice A' (ps.length + 1) c' ∧ BK3 tb ti tp base m1 m2 w'.heap.size S1 S2 S' w' va ve v' la le (ps ++ [(k, bs)]) ∧ Ext (fun k => base ≤ k ∧ k < m3) w w' := by
  obtain ⟨a, e, ⟨vs, p, q⟩, s1, s2, s3, l1, l2, l3, d12, d13, d23, b⟩ := h
  have hl := q.len
  refine (appRow (K := KRN 2) (KRN_flat 2) hT hI hs hx p (fun k hk => by have := s3 k hk; omega) hS (by rw [hl]; exact hmax)).mono fun v' w' ⟨h1, h2⟩ => ?_
  obtain ⟨A', c', e1, _⟩ := h1.slice
  have hz := h2.size
  rw [List.length_append, hl] at e1
  refine ⟨A', c', _, e1, ⟨a.ext h2 (by intro k h1 h2; omega) (fun k h3 h4 => d13 k h3 h4), e.ext h2 (by intro k h1 h2; omega) (fun k h3 h4 => d23 k h3 h4), ⟨_, h1, ?_⟩, s1, s2, ?_, by omega, by omega, Nat.le_refl _, d12, ?_, ?_, by omega⟩, h2.mono fun k _ hk => s3 k hk⟩
  · exact (q.app (us := [.agg #[.int .u8 (k.toNat : Int), .slice A2 n2 c2]]) (qs := [(k, bs)]) ⟨⟨A2, n2, c2, lo2, hi2, rfl, hnc, fun k _ h => by omega, hD⟩, trivial⟩).move (fun _ h => h) fun k hG hk => h2.keep k hk fun h => by have := s3 k h; have : k < base := hG; omega
  · rintro k (h | ⟨h, h'⟩)
    · have := s3 k h; omega
    · omega
  · rintro k h3 (h | ⟨h, h'⟩)
    · exact d13 k h3 h
    · have := s1 k h3; omega
  · rintro k h3 (h | ⟨h, h'⟩)
    · exact d23 k h3 h
    · have := s2 k h3; omega
end
end Go.Proofs.Ytgfficbkajcdpaa.X
