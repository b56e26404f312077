/- Texts that the proof of RunWrites stands on, part 18. -/
import Derived.Test.YtbljooblpfdbiaaGreatDoorRows
import Derived.LaidMore
import Derived.ProofKit
import Derived.OpenShut
import Derived.Stop.Joined
import Derived.KernelRfl
import Derived.Test.YtbljooblpfdbiaaGreatDoorProg
import Derived.Test.YtbljooblpfdbiaaGreatDoorBunRunWrites17
set_option linter.unusedSimpArgs false
set_option linter.unusedVariables false
namespace Go.Proofs.YtbljooblpfdbiaaGreatDoor
open Go Go.Proofs.YtbljooblpfdbiaaGreatDoor.X Go.ChangeShapes Go.WideShapes Go.ChangeAt Go.RowKit
def laidT : List (String × DataW Unit) := [("pedigree/crc.table", Rows.laid_pedigree_crc_table)]
theorem gTab : Tryz.prog.globalNamed "pedigree/crc.table" = some 0 := by kernel_rfl
theorem tTab : (Tryz.prog.globals[0]?).map (·.type) = some 244 := by kernel_rfl
theorem c32 : Tryz.prog.cellsOf 68 = 1 := by kernel_rfl
theorem tab_list : Rows.laid_pedigree_crc_table = (DataW.agg (tabL.map fun (n : Nat) => .lit (.int .u32 (n : Int))) : DataW Unit) := rfl
theorem tab_at : ∀ i : Fin 16, tabL[i.1]? = some (tabV i.1).toNat := by decide
theorem door_met (os : Os) (args : Array Value) : laidMetH Tryz.prog laidT ((World.doorLaid Tryz.prog 400 os).forCall (fun _ _ => 0) ⟨#[], args, []⟩).memory :=
  laidMetH_of_parts3 (fuel := 8) (laidMet_of_run' 8 (by kernel_rfl) (by kernel_rfl)) (by kernel_rfl) (by kernel_rfl)
theorem tabOk_of_laid {W : World} (h : laidMetH Tryz.prog laidT W) : TabOk W := by
  rw [MakeChecks.laidMetH_plain _ _ _ (by kernel_rfl)] at h
  obtain ⟨ps, ⟨g0, t0, cs0, f0, p0, q0, hg0, ht0, hv0, hd0, _, _⟩, _, _⟩ := h
  obtain rfl := Option.some.inj (gTab.symm.trans hg0)
  obtain rfl := Option.some.inj (tTab.symm.trans ht0)
  obtain ⟨xs, m1, rfl, hx1, hlen, hn, hel⟩ := DataW.trod_array Tryz.underlying244 hd0
  intro i hi
  rw [tab_list] at hx1
  simp only [Prod.mk.injEq, DataW.agg.injEq] at hx1
  obtain ⟨x, hx⟩ : ∃ x, xs[i]? = some x := ⟨xs[i]'(by omega), List.getElem?_eq_getElem (by omega)⟩
  have h1 := hel i hi
  rw [hx, c32] at h1
  obtain ⟨k, e1, e2, _⟩ := DataW.trod_int Tryz.underlying68 h1
  have h2 : (xs.map (·.1))[i]? = some x.1 := by rw [List.getElem?_map, hx]; rfl
  rw [← hx1.1, List.getElem?_map, tab_at ⟨i, hi⟩, e2] at h2
  have hk : k = ((tabV i).toNat : Int) := by
    simp at h2
    exact h2.symm
  subst hk
  have h3 : (cs0.toList.drop (i * 1)).take 1 = [Value.int .u32 ((tabV i).toNat : Int)] := e1
  have h4 : cs0.toList[i]? = some (Value.int .u32 ((tabV i).toNat : Int)) := by
    have := congrArg (fun l => l[0]?) h3
    rw [Nat.mul_one] at this
    simpa [List.getElem?_take, List.getElem?_drop] using this
  rw [World.var?_cell hg0 hv0 i]
  simpa using h4
end Go.Proofs.YtbljooblpfdbiaaGreatDoor
