/- Texts that the proof of RunBursts stands on, part 8. -/
import Derived.Laws.OwnMore
import Derived.Test.YtbljooblpfdbiaaGreatDoorBunRunBursts7
set_option maxHeartbeats 4000000
set_option maxRecDepth 100000
set_option linter.unusedSimpArgs false
namespace Go.Proofs.YtbljooblpfdbiaaGreatDoor.X
open Go
theorem reps_zero (lo hi : Nat) (w : World) : ∀ n, Reps KB lo hi w (List.replicate n (0 : UInt8)) (List.replicate n (.int .u8 0))
  | 0 => rfl
  | n + 1 => ⟨[.int .u8 0], _, rfl, KB_R lo hi w 0, reps_zero lo hi w n⟩
theorem zeroCells_list (n : Nat) : (Builtin.zeroCells #[.int .u8 0] n).toList = List.replicate n (.int .u8 0) := by
  apply List.ext_getElem
  · simp [Builtin.zeroCells]
  · intro i h1 h2
    simp [Builtin.zeroCells]
    rw [show i % 1 = 0 by omega]; rfl
section
variable {P : Program} {ρ : Operand → Value} {w : World} {dst : Option Tmp} {ty : TypeId} {pos : String} {aft : Array Edge} {g : Option (Nat × Bool)}
structure ByteInfo (P : Program) (e : Nat) : Prop where
  ex : ∃ i, P.info? e = some i ∧ i.zero = some (.int .u8 0) ∧ i.size = 1 ∧ i.bytes = 1
theorem ByteInfo.of {P : Program} {e : Nat} (h : (P.info? e).map (fun i => (i.zero, i.size, i.bytes)) = some (some (.int .u8 0), 1, 1)) : ByteInfo P e := by
  obtain ⟨i, hi, hq⟩ := Option.map_eq_some_iff.1 h
  simp only [Prod.mk.injEq] at hq
  exact ⟨i, hi, hq.1, hq.2.1, hq.2.2⟩
end
theorem Sl.rows {α : Type} {K : Kd α} {lo hi : Nat} {w : World} {A : Option Addr} {n : Nat} {ls : List (List α)} (h : Sl (Kd.slice K) lo hi w A n ls) : ∃ vs, Sl KR1 lo hi w A n vs ∧ SlRows K lo hi w vs ls := by
  have key : ∀ (ls : List (List α)) (off : Nat), (∀ j x, ls[j]? = some x → ∃ B m c, m ≤ c ∧ Sl K lo hi w B m x ∧ ∀ ad, A = some ad → w.cell? (ad.add (off + j)) = some (.slice B m c)) →
      ∃ vs : List Value, SlRows K lo hi w vs ls ∧ (∀ j v, vs[j]? = some v → (∀ ad, A = some ad → w.cell? (ad.add (off + j)) = some v) ∧ v.oneCell' = true) := by
    intro ls
    induction ls with
    | nil => intro off _; exact ⟨[], trivial, fun j v hv => by simp at hv⟩
    | cons x ls ih =>
      intro off hq
      obtain ⟨B, m, c, h1, h2, h3⟩ := hq 0 x rfl
      obtain ⟨vs, hr, hv⟩ := ih (off + 1) fun j y hy => by
        obtain ⟨B, m, c, g1, g2, g3⟩ := hq (j + 1) y (by simpa using hy)
        exact ⟨B, m, c, g1, g2, fun ad e => by have := g3 ad e; rwa [show off + (j + 1) = off + 1 + j by omega] at this⟩
      refine ⟨.slice B m c :: vs, ⟨⟨B, m, c, rfl, h1, h2⟩, hr⟩, fun j v hj => ?_⟩
      cases j with
      | zero =>
        simp only [List.getElem?_cons_zero, Option.some.injEq] at hj
        subst hj
        exact ⟨h3, rfl⟩
      | succ j =>
        simp only [List.getElem?_cons_succ] at hj
        obtain ⟨g1, g2⟩ := hv j v hj
        exact ⟨fun ad e => by have := g1 ad e; rwa [show off + 1 + j = off + (j + 1) by omega] at this, g2⟩
  obtain ⟨vs, hr, hv⟩ := key ls 0 fun j x hx => by
    obtain ⟨ad, cs, e, ⟨B, m, c, hcs, h1, h2⟩, hq⟩ := h.get j x hx
    refine ⟨B, m, c, h1, h2, fun ad' e' => ?_⟩
    rw [e] at e'
    cases e'
    have := hq 0 (.slice B m c) (by rw [hcs]; rfl)
    simpa [Kd.slice] using this
  refine ⟨vs, ⟨hr.len.trans h.len, h.bound, fun hn => ?_⟩, hr⟩
  obtain ⟨ad, e, h1, h2, _⟩ := h.at_ hn
  refine ⟨ad, e, h1, h2, fun j v hj => ?_⟩
  obtain ⟨g1, g2⟩ := hv j v hj
  refine ⟨[v], ⟨rfl, g2⟩, fun i u hu => ?_⟩
  match i, hu with
  | 0, hu =>
    simp only [List.getElem?_cons_zero, Option.some.injEq] at hu
    subst hu
    have := g1 ad e
    simpa [KR1] using this
theorem reps_set {lo hi : Nat} {w : World} {y : UInt8} : ∀ {xs : List UInt8} {cs : List Value} (j : Nat), Reps KB lo hi w xs cs → Reps KB lo hi w (xs.set j y) (cs.set j (.int .u8 (y.toNat : Int)))
  | [], cs, j, h => by
    have : cs = [] := h
    subst this; exact rfl
  | x :: xs, cs, j, ⟨a, b, e, h1, h2⟩ => by
    have ha : a = [.int .u8 (x.toNat : Int)] := h1.1
    subst ha
    subst e
    cases j with
    | zero => exact ⟨[.int .u8 (y.toNat : Int)], b, rfl, KB_R lo hi w y, h2⟩
    | succ j => exact ⟨[.int .u8 (x.toNat : Int)], _, rfl, h1, reps_set j h2⟩
section
variable {P : Program} {ρ : Operand → Value} {w : World} {dst : Option Tmp} {ty : TypeId} {pos : String} {aft : Array Edge} {g : Option (Nat × Bool)}
theorem storeM {T e : TypeId} {S : Nat → Prop} {a x : Operand} {A : Option Addr} {n c j : Nat} {xs : List UInt8} {y : UInt8} (hs : ∀ w, (sizeOf T).run P w = .ok 1 w) (hM : Mine KB e S 0 0 w (.slice A n c) xs) (hj : j < xs.length) (ha : ρ a = .pointer (some ((A.getD default).add (j * 1)))) (hx : ρ x = .int .u8 (y.toNat : Int)) :
    DoesE P ⟨none, .store T a x, ty, pos, aft, g⟩ ρ w fun _ w' => Mine KB e S 0 0 w' (.slice A n c) (xs.set j y) ∧ Ext S w w' ∧ w'.heap.size = w.heap.size := by
  obtain ⟨b, ⟨⟨cs, hr, hrow⟩, hbb⟩, hb⟩ := hM
  have hl : cs.length = xs.length * 1 := hrow.1
  rcases hrow.2 with ⟨_, hn⟩ | ⟨g', cap, cur, he, hbg, hg, hnc, hcm, hcs, htake⟩
  · omega
  · injection he with e1 e2 e3
    subst e1
    have hcs : cur.size = cap * 1 := hcs
    have hi : j < cur.size := by omega
    rw [show (Option.getD (some (⟨g', 0, none⟩ : Addr)) default).add (j * 1) = ⟨g', j, none⟩ by rw [show j * 1 = j by omega]; show (⟨g', 0, none⟩ : Addr).add j = _; rw [add_mk, Nat.zero_add]] at ha
    have hc : w.cell? ⟨g', j, none⟩ = some (cur[j]'hi) := by rw [cell_of_row w g' j cur e (0, 0) hg]; exact Array.getElem?_eq_getElem hi
    have hf : w.frozen? ⟨g', j, none⟩ = false := frozen_of_row w g' j cur e hg
    have hst : (store ⟨g', j, none⟩ (.int .u8 (y.toNat : Int))).run P w = .ok () (w.setCell ⟨g', j, none⟩ (.int .u8 (y.toNat : Int))) := by simp [store, Sem.run, hc, hf]
    have hSg : S g' := hb g' (by rw [← hbb]; rfl)
    refine (does_skip (w' := w.setCell ⟨g', j, none⟩ (.int .u8 (y.toNat : Int))) rfl ?_).e ⟨⟨some g', ⟨⟨cs.set j (.int .u8 (y.toNat : Int)), reps_set j (hr.flat KB_flat), ?_⟩, rfl⟩, fun k hk => by cases hk; exact hSg⟩, (Ext.setCell w ⟨g', j, none⟩ _).mono (fun k _ hk => by rw [show k = g' from hk]; exact hSg), by simp⟩
    · simp only [execOp, ha, hx, Instr.storeAt, Instr.sureAddr, storeVar, Value.cells]
      simp [hs, storeCells, add_zero, hst]
    · refine ⟨by rw [List.length_set, List.length_set]; exact hl, .inr ⟨g', cap, cur.set! j (.int .u8 (y.toNat : Int)), ?_, hbg, ?_, by rw [List.length_set]; exact hnc, hcm, by rw [show KB.sz = 1 from rfl]; simp [hcs], ?_⟩⟩
      · rw [List.length_set, e2, e3]
      · have := heap_setCell_same w g' j cur e (.int .u8 (y.toNat : Int)) hg
        simpa using this
      · rw [List.length_set]
        have : (cur.set! j (Value.int .u8 (y.toNat : Int))).toList = cur.toList.set j (.int .u8 (y.toNat : Int)) := by simp
        rw [this, List.take_set, htake]
end
end Go.Proofs.YtbljooblpfdbiaaGreatDoor.X
