/- Texts that the proof of CacheSame stands on, part 8. -/
import Derived.Laws.OwnMore
import Derived.Test.YtjjhddjllpihaaaGreatDoorBunCacheSame7
set_option maxHeartbeats 4000000
set_option maxRecDepth 100000
set_option linter.unusedSimpArgs false
namespace Go.Proofs.YtjjhddjllpihaaaGreatDoor.X
open Go
theorem reps_zero (lo hi : Nat) (w : World) : ∀ n, Reps KB lo hi w (List.replicate n (0 : UInt8)) (List.replicate n (.int .u8 0))
  | 0 => rfl
  | n + 1 => ⟨[.int .u8 0], _, rfl, KB_R lo hi w 0, reps_zero lo hi w n⟩
theorem zeroCells_list (n : Nat) : (Builtin.zeroCells #[.int .u8 0] n).toList = List.replicate n (.int .u8 0) := by
  apply List.ext_getElem
  · simp [Builtin.zeroCells]
  · intro i h1 h2
    simp [Builtin.zeroCells]
    rw [show i % 1 = 0 by omega]; rfl
section
variable {P : Program} {ρ : Operand → Value} {w : World} {dst : Option Tmp} {ty : TypeId} {pos : String} {aft : Array Edge} {g : Option (Nat × Bool)}
structure ByteInfo (P : Program) (e : Nat) : Prop where
  ex : ∃ i, P.info? e = some i ∧ i.zero = some (.int .u8 0) ∧ i.size = 1 ∧ i.bytes = 1
theorem ByteInfo.of {P : Program} {e : Nat} (h : (P.info? e).map (fun i => (i.zero, i.size, i.bytes)) = some (some (.int .u8 0), 1, 1)) : ByteInfo P e := by
  obtain ⟨i, hi, hq⟩ := Option.map_eq_some_iff.1 h
  simp only [Prod.mk.injEq] at hq
  exact ⟨i, hi, hq.1, hq.2.1, hq.2.2⟩
end
theorem Sl.rows {α : Type} {K : Kd α} {lo hi : Nat} {w : World} {A : Option Addr} {n : Nat} {ls : List (List α)} (h : Sl (Kd.slice K) lo hi w A n ls) : ∃ vs, Sl KR1 lo hi w A n vs ∧ SlRows K lo hi w vs ls := by
  have key : ∀ (ls : List (List α)) (off : Nat), (∀ j x, ls[j]? = some x → ∃ B m c, m ≤ c ∧ Sl K lo hi w B m x ∧ ∀ ad, A = some ad → w.cell? (ad.add (off + j)) = some (.slice B m c)) →
      ∃ vs : List Value, SlRows K lo hi w vs ls ∧ (∀ j v, vs[j]? = some v → (∀ ad, A = some ad → w.cell? (ad.add (off + j)) = some v) ∧ v.oneCell' = true) := by
    intro ls
    induction ls with
    | nil => intro off _; exact ⟨[], trivial, fun j v hv => by simp at hv⟩
    | cons x ls ih =>
      intro off hq
      obtain ⟨B, m, c, h1, h2, h3⟩ := hq 0 x rfl
      obtain ⟨vs, hr, hv⟩ := ih (off + 1) fun j y hy => by
        obtain ⟨B, m, c, g1, g2, g3⟩ := hq (j + 1) y (by simpa using hy)
        exact ⟨B, m, c, g1, g2, fun ad e => by have := g3 ad e; rwa [show off + (j + 1) = off + 1 + j by omega] at this⟩
      refine ⟨.slice B m c :: vs, ⟨⟨B, m, c, rfl, h1, h2⟩, hr⟩, fun j v hj => ?_⟩
      cases j with
      | zero =>
        simp only [List.getElem?_cons_zero, Option.some.injEq] at hj
        subst hj
        exact ⟨h3, rfl⟩
      | succ j =>
        simp only [List.getElem?_cons_succ] at hj
        obtain ⟨g1, g2⟩ := hv j v hj
        exact ⟨fun ad e => by have := g1 ad e; rwa [show off + 1 + j = off + (j + 1) by omega] at this, g2⟩
  obtain ⟨vs, hr, hv⟩ := key ls 0 fun j x hx => by
    obtain ⟨ad, cs, e, ⟨B, m, c, hcs, h1, h2⟩, hq⟩ := h.get j x hx
    refine ⟨B, m, c, h1, h2, fun ad' e' => ?_⟩
    rw [e] at e'
    cases e'
    have := hq 0 (.slice B m c) (by rw [hcs]; rfl)
    simpa [Kd.slice] using this
  refine ⟨vs, ⟨hr.len.trans h.len, h.bound, fun hn => ?_⟩, hr⟩
  obtain ⟨ad, e, h1, h2, _⟩ := h.at_ hn
  refine ⟨ad, e, h1, h2, fun j v hj => ?_⟩
  obtain ⟨g1, g2⟩ := hv j v hj
  refine ⟨[v], ⟨rfl, g2⟩, fun i u hu => ?_⟩
  match i, hu with
  | 0, hu =>
    simp only [List.getElem?_cons_zero, Option.some.injEq] at hu
    subst hu
    have := g1 ad e
    simpa [KR1] using this
end Go.Proofs.YtjjhddjllpihaaaGreatDoor.X
