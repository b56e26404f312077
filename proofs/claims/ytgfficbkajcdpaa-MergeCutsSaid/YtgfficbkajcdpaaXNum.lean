/- Rows of numbers: made, stored into. -/
import Derived.Test.YtgfficbkajcdpaaXTrio
namespace Go.Proofs.Ytgfficbkajcdpaa.X
open Go
set_option linter.unusedVariables false
set_option linter.unusedSimpArgs false

theorem reps_zeroN (lo hi : Nat) (w : World) : ∀ n, Reps KNt lo hi w (List.replicate n 0) (List.replicate n (.int .i64 0))
  | 0 => rfl
  | n + 1 => ⟨[.int .i64 0], _, rfl, KNt_R lo hi w 0, reps_zeroN lo hi w n⟩
theorem madeCells_listN (n : Nat) : (madeCells #[.int .i64 0] (n * 1)).toList = List.replicate n (.int .i64 0) := by
  apply List.ext_getElem
  · simp [madeCells]
  · intro i h1 h2
    simp [madeCells]
    rw [show i % 1 = 0 by omega]; rfl
structure IntInfo (P : Program) (e : Nat) : Prop where
  ex : ∃ i, P.info? e = some i ∧ i.zero = some (.int .i64 0) ∧ i.size = 1 ∧ i.bytes = 8
theorem IntInfo.of {P : Program} {e : Nat} (h : (P.info? e).map (fun i => (i.zero, i.size, i.bytes)) = some (some (.int .i64 0), 1, 8)) : IntInfo P e := by
  obtain ⟨i, hi, hq⟩ := Option.map_eq_some_iff.1 h
  simp only [Prod.mk.injEq] at hq
  exact ⟨i, hi, hq.1, hq.2.1, hq.2.2⟩
theorem reps_setN {lo hi : Nat} {w : World} {y : Nat} : ∀ {xs : List Nat} {cs : List Value} (j : Nat), Reps KNt lo hi w xs cs → Reps KNt lo hi w (xs.set j y) (cs.set j (.int .i64 (y : Int)))
  | [], cs, j, h => by
    have : cs = [] := h
    subst this; exact rfl
  | x :: xs, cs, j, ⟨a, b, e, h1, h2⟩ => by
    have ha : a = [.int .i64 (x : Int)] := h1.1
    subst ha
    subst e
    cases j with
    | zero => exact ⟨[.int .i64 (y : Int)], b, rfl, KNt_R lo hi w y, h2⟩
    | succ j => exact ⟨[.int .i64 (x : Int)], _, rfl, h1, reps_setN j h2⟩
section
variable {P : Program} {ρ : Operand → Value} {w : World} {dst : Option Tmp} {ty : TypeId} {pos : String} {aft : Array Edge} {g : Option (Nat × Bool)}
/-- 'make([]int, n)'. -/
theorem mkN {T e : TypeId} {S : Nat → Prop} {x y : Operand} {kx ky : IntKind} {n : Nat} (hT : P.underlying T = some (.slice e)) (hI : IntInfo P e) (hx : ρ x = .int kx (n : Int)) (hy : ρ y = .int ky (n : Int)) (hn : n ≤ 1000000) (hS : S w.heap.size) :
    DoesE P ⟨dst, .makeSlice T x y, ty, pos, aft, g⟩ ρ w fun v w' => v = .slice (some ⟨w.heap.size, 0, none⟩) n n ∧ Sl KNt 0 w'.heap.size w' (some ⟨w.heap.size, 0, none⟩) n (List.replicate n 0) ∧ Mine KNt e S 0 0 w' v (List.replicate n 0) ∧ Keep w w' ∧ w.heap.size < w'.heap.size := by
  obtain ⟨i, h1, h2, h3, h4⟩ := hI
  obtain ⟨w', q1, q2, q3⟩ := run_make_full (P := P) w 0 T e i (.int .i64 0) 1 hT h1 h2 h3 kx ky n (by rw [h4]; omega) (by simp only [maxLen]; omega) (Nat.zero_le _)
  have hz : (Value.int .i64 0).cells = #[.int .i64 0] := rfl
  rw [hz, madeCells_listN] at q2
  have hM : Mine KNt e S 0 0 w' (.slice (some ⟨w.heap.size, 0, none⟩) n n) (List.replicate n 0) := ⟨some w.heap.size, ⟨⟨_, reps_zeroN 0 0 w' n, by rw [List.length_replicate]; exact q2⟩, rfl⟩, fun k hk => by cases hk; exact hS⟩
  have hlt : w.heap.size < w'.heap.size := Own.lt (K := KNt) (e := e) (lo := 0) (hi := 0) (v := .slice (some ⟨w.heap.size, 0, none⟩) n n) (xs := List.replicate n 0) ⟨⟨_, reps_zeroN 0 0 w' n, by rw [List.length_replicate]; exact q2⟩, rfl⟩ _ rfl
  have hSl : Sl KNt 0 w'.heap.size w' (some ⟨w.heap.size, 0, none⟩) n (List.replicate n 0) := by
    obtain ⟨A, c, e1, _, hs⟩ := hM.slF KNt_flat 0 (fun _ _ => Nat.zero_le _)
    injection e1 with e2 e3 e4
    rw [← e2, ← e3] at hs
    exact hs
  refine (does_run (w' := w') rfl (by simp only [execOp, hx, hy]; simp [q1])).e ⟨rfl, hSl, hM, ⟨q3.os, q3.tape, q3.output, q3.size, fun k hk _ => q3.block k hk (by simp)⟩, hlt⟩
theorem storeMN {T e : TypeId} {S : Nat → Prop} {a x : Operand} {A : Option Addr} {n c j : Nat} {xs : List Nat} {y : Nat} (hs : ∀ w, (sizeOf T).run P w = .ok 1 w) (hM : Mine KNt e S 0 0 w (.slice A n c) xs) (hj : j < xs.length) (ha : ρ a = .pointer (some ((A.getD default).add (j * 1)))) (hx : ρ x = .int .i64 (y : Int)) :
    DoesE P ⟨none, .store T a x, ty, pos, aft, g⟩ ρ w fun _ w' => Mine KNt e S 0 0 w' (.slice A n c) (xs.set j y) ∧ Ext S w w' ∧ w'.heap.size = w.heap.size := by
  obtain ⟨b, ⟨⟨cs, hr, hrow⟩, hbb⟩, hb⟩ := hM
  have hl : cs.length = xs.length * 1 := hrow.1
  rcases hrow.2 with ⟨_, hn⟩ | ⟨g', cap, cur, he, hbg, hg, hnc, hcm, hcs, htake⟩
  · omega
  · injection he with e1 e2 e3
    subst e1
    have hcs : cur.size = cap * 1 := hcs
    have hi : j < cur.size := by omega
    rw [show (Option.getD (some (⟨g', 0, none⟩ : Addr)) default).add (j * 1) = ⟨g', j, none⟩ by rw [show j * 1 = j by omega]; show (⟨g', 0, none⟩ : Addr).add j = _; rw [add_mk, Nat.zero_add]] at ha
    have hc : w.cell? ⟨g', j, none⟩ = some (cur[j]'hi) := by rw [cell_of_row w g' j cur e (0, 0) hg]; exact Array.getElem?_eq_getElem hi
    have hf : w.frozen? ⟨g', j, none⟩ = false := frozen_of_row w g' j cur e hg
    have hst : (store ⟨g', j, none⟩ (.int .i64 (y : Int))).run P w = .ok () (w.setCell ⟨g', j, none⟩ (.int .i64 (y : Int))) := by simp [store, Sem.run, hc, hf]
    have hSg : S g' := hb g' (by rw [← hbb]; rfl)
    refine (does_skip (w' := w.setCell ⟨g', j, none⟩ (.int .i64 (y : Int))) rfl ?_).e ⟨⟨some g', ⟨⟨cs.set j (.int .i64 (y : Int)), reps_setN j (hr.flat KNt_flat), ?_⟩, rfl⟩, fun k hk => by cases hk; exact hSg⟩, (Ext.setCell w ⟨g', j, none⟩ _).mono (fun k _ hk => by rw [show k = g' from hk]; exact hSg), by simp⟩
    · simp only [execOp, ha, hx, Instr.storeAt, Instr.sureAddr, storeVar, Value.cells]
      simp [hs, storeCells, add_zero, hst]
    · refine ⟨by rw [List.length_set, List.length_set]; exact hl, .inr ⟨g', cap, cur.set! j (.int .i64 (y : Int)), ?_, hbg, ?_, by rw [List.length_set]; exact hnc, hcm, by rw [show KNt.sz = 1 from rfl]; simp [hcs], ?_⟩⟩
      · rw [List.length_set, e2, e3]
      · have := heap_setCell_same w g' j cur e (.int .i64 (y : Int)) hg
        simpa using this
      · rw [List.length_set]
        have : (cur.set! j (Value.int .i64 (y : Int))).toList = cur.toList.set j (.int .i64 (y : Int)) := by simp
        rw [this, List.take_set, htake]
end
end Go.Proofs.Ytgfficbkajcdpaa.X
