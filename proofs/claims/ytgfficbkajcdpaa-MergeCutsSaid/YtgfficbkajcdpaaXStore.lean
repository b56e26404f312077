/- A byte stored into a row of the call's own. -/
import Derived.Test.YtgfficbkajcdpaaXSls
namespace Go.Proofs.Ytgfficbkajcdpaa.X
open Go

theorem reps_set {lo hi : Nat} {w : World} {y : UInt8} : ∀ {xs : List UInt8} {cs : List Value} (j : Nat), Reps KB lo hi w xs cs → Reps KB lo hi w (xs.set j y) (cs.set j (.int .u8 (y.toNat : Int)))
  | [], cs, j, h => by
    have : cs = [] := h
    subst this; exact rfl
  | x :: xs, cs, j, ⟨a, b, e, h1, h2⟩ => by
    have ha : a = [.int .u8 (x.toNat : Int)] := h1.1
    subst ha
    subst e
    cases j with
    | zero => exact ⟨[.int .u8 (y.toNat : Int)], b, rfl, KB_R lo hi w y, h2⟩
    | succ j => exact ⟨[.int .u8 (x.toNat : Int)], _, rfl, h1, reps_set j h2⟩
section
variable {P : Program} {ρ : Operand → Value} {w : World} {dst : Option Tmp} {ty : TypeId} {pos : String} {aft : Array Edge} {g : Option (Nat × Bool)}
theorem storeM {T e : TypeId} {S : Nat → Prop} {a x : Operand} {A : Option Addr} {n c j : Nat} {xs : List UInt8} {y : UInt8} (hs : ∀ w, (sizeOf T).run P w = .ok 1 w) (hM : Mine KB e S 0 0 w (.slice A n c) xs) (hj : j < xs.length) (ha : ρ a = .pointer (some ((A.getD default).add (j * 1)))) (hx : ρ x = .int .u8 (y.toNat : Int)) :
    DoesE P ⟨none, .store T a x, ty, pos, aft, g⟩ ρ w fun _ w' => Mine KB e S 0 0 w' (.slice A n c) (xs.set j y) ∧ Ext S w w' ∧ w'.heap.size = w.heap.size := by
  obtain ⟨b, ⟨⟨cs, hr, hrow⟩, hbb⟩, hb⟩ := hM
  have hl : cs.length = xs.length * 1 := hrow.1
  rcases hrow.2 with ⟨_, hn⟩ | ⟨g', cap, cur, he, hbg, hg, hnc, hcm, hcs, htake⟩
  · omega
  · injection he with e1 e2 e3
    subst e1
    have hcs : cur.size = cap * 1 := hcs
    have hi : j < cur.size := by omega
    rw [show (Option.getD (some (⟨g', 0, none⟩ : Addr)) default).add (j * 1) = ⟨g', j, none⟩ by rw [show j * 1 = j by omega]; show (⟨g', 0, none⟩ : Addr).add j = _; rw [add_mk, Nat.zero_add]] at ha
    have hc : w.cell? ⟨g', j, none⟩ = some (cur[j]'hi) := by rw [cell_of_row w g' j cur e (0, 0) hg]; exact Array.getElem?_eq_getElem hi
    have hf : w.frozen? ⟨g', j, none⟩ = false := frozen_of_row w g' j cur e hg
    have hst : (store ⟨g', j, none⟩ (.int .u8 (y.toNat : Int))).run P w = .ok () (w.setCell ⟨g', j, none⟩ (.int .u8 (y.toNat : Int))) := by simp [store, Sem.run, hc, hf]
    have hSg : S g' := hb g' (by rw [← hbb]; rfl)
    refine (does_skip (w' := w.setCell ⟨g', j, none⟩ (.int .u8 (y.toNat : Int))) rfl ?_).e ⟨⟨some g', ⟨⟨cs.set j (.int .u8 (y.toNat : Int)), reps_set j (hr.flat KB_flat), ?_⟩, rfl⟩, fun k hk => by cases hk; exact hSg⟩, (Ext.setCell w ⟨g', j, none⟩ _).mono (fun k _ hk => by rw [show k = g' from hk]; exact hSg), by simp⟩
    · simp only [execOp, ha, hx, Instr.storeAt, Instr.sureAddr, storeVar, Value.cells]
      simp [hs, storeCells, add_zero, hst]
    · refine ⟨by rw [List.length_set, List.length_set]; exact hl, .inr ⟨g', cap, cur.set! j (.int .u8 (y.toNat : Int)), ?_, hbg, ?_, by rw [List.length_set]; exact hnc, hcm, by rw [show KB.sz = 1 from rfl]; simp [hcs], ?_⟩⟩
      · rw [List.length_set, e2, e3]
      · have := heap_setCell_same w g' j cur e (.int .u8 (y.toNat : Int)) hg
        simpa using this
      · rw [List.length_set]
        have : (cur.set! j (Value.int .u8 (y.toNat : Int))).toList = cur.toList.set j (.int .u8 (y.toNat : Int)) := by simp
        rw [this, List.take_set, htake]
end
end Go.Proofs.Ytgfficbkajcdpaa.X
