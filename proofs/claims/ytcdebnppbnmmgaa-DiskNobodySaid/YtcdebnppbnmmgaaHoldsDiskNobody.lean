/- The law DiskNobody of the given program returns true for every input, and what was handed in reads as it did. No condition. -/
import Derived.Test.YtcdebnppbnmmgaaRows
import Derived.Test.YtcdebnppbnmmgaaBunDiskNobody15
namespace Go.Proofs.Ytcdebnppbnmmgaa
open Go Go.Proofs.Ytcdebnppbnmmgaa.X Go.ChangeShapes Go.WideShapes Go.ChangeAt Go.RowKit
open Go.ChangeMaps (open_string shut_string)
set_option linter.unusedVariables false

theorem DiskNobody_own : ownKnob Try.prog.godebug = none := by kernel_rfl
theorem DiskNobody_laidOut : laidOutB Try.prog = true := by kernel_rfl

set_option maxRecDepth 100000 in
theorem DiskNobody_lifted (os : Os) (started : os.Started) (H : Type) (enc : TypeId × Value → H) :
    ReturnsInHanded {} Try.checked os 5 .any (Rows.diskNobodySpec.pre6 enc Try.prog Try.f5 Rows.diskNobodyRow.domain false) (Rows.diskNobodySpec.post enc Try.prog Try.f5 false true false false) := by
  refine returnsInHanded_of_change (C := Try.checked) DiskNobody_own started (by kernel_rfl) Try.func5
    (ChangeSpec.witness6 (enc := enc) (C := Try.checked) false ⟨#[], #[.agg #[.int .i64 0, .string ByteArray.empty, .string ByteArray.empty, .int .i64 0, .slice none 0 0, .int .i64 0, .slice none 0 0, .slice none 0 0]], []⟩ 8 (by kernel_rfl) (by kernel_rfl) (by kernel_rfl) (by kernel_rfl)) ?_
  intro W base args ds gs before hval0 hW hcnd _
  have hval : ∀ (j : Nat) t v, Try.f5.params[j]? = some t → args[j]? = some v → Value.okWide Try.prog W .any base t v := hval0
  have hW' := hW
  obtain ⟨p, q, hA0, hV, rfl, hfz, hnd⟩ := hW
  have hA : DataW.TrodAll enc Try.prog W 0 (fun _ => true) true Try.f5.params.toList args.toList ds p := hA0
  rw [Try.params5] at hA hval
  obtain ⟨v0, vs0, d0, ds0, p0, q0, hargs, rfl, rfl, h0, r0⟩ := trodAll_cons hA
  obtain ⟨rfl, rfl, rfl⟩ := trodAll_nil r0
  obtain rfl : args = #[v0] := by cases args; simp_all
  obtain ⟨rfl, rfl⟩ := trodVars_none hV
  have k0 := h0
  have lt0 : ∀ x ∈ p0, x.block < W.heap.size := by obtain ⟨m, hm⟩ := k0; exact DataW.trod_lt m _ _ _ hm
  obtain ⟨y0, g0⟩ : ∃ y, ((Kd.pair KI (Kd.pair KS (Kd.pair KS (Kd.pair KI (Kd.pair (Kd.slice KB) (Kd.pair KI (Kd.pair (Kd.slice KBo) (Kd.slice KBo))))))))).R 0 W.heap.size W y v0.cells.toList := by obtain ⟨fuel, hf⟩ := h0; exact (opens_struct Try.underlying48 (by kernel_rfl) (.cons (K := KI) rfl (by kernel_rfl) (opens_i64 Try.underlying3) (.cons (K := KS) rfl (by kernel_rfl) (opens_string Try.underlying9) (.cons (K := KS) rfl (by kernel_rfl) (opens_string Try.underlying9) (.cons (K := KI) rfl (by kernel_rfl) (opens_i64 Try.underlying3) (.cons (K := (Kd.slice KB)) rfl (by kernel_rfl) (opens_slice (K := KB) Try.underlying22 (by kernel_rfl) (by decide) (opens_u8 Try.underlying5)) (.one (K := (Kd.pair KI (Kd.pair (Kd.slice KBo) (Kd.slice KBo)))) rfl (by kernel_rfl) (opens_struct3 (K := KI) (L := (Kd.slice KBo)) (M := (Kd.slice KBo)) Try.underlying25 (by kernel_rfl) ⟨rfl, by kernel_rfl⟩ ⟨rfl, by kernel_rfl⟩ ⟨rfl, by kernel_rfl⟩ (opens_i64 Try.underlying3) (opens_slice (K := KBo) Try.underlying23 (by kernel_rfl) (by decide) (opens_bool Try.underlying4)) (opens_slice (K := KBo) Try.underlying23 (by kernel_rfl) (by decide) (opens_bool Try.underlying4)))))))))) fuel _ _ hf
  obtain ⟨a0, rfl, z0⟩ := okWide_struct Try.underlying48 (hval 0 48 v0 rfl rfl)
  clear hA0 hval0
  refine (Go.Proofs.Ytcdebnppbnmmgaa.X.Ret.calls (DiskNobody_c W _ _ g0)).mono fun e W' ⟨v, he, hv, hk⟩ => ?_
  subst he; subst hv
  have bel := hk.below
  exact ⟨_, rfl, _, _, _, [], _, [], hW', trodAll_mk1 (shut_bool Try.underlying4 _), (trodAll_cons_mk (Below.trod DiskNobody_laidOut (by kernel_rfl) (of_decide_eq_true (by kernel_rfl)) k0 bel lt0) trodAll_mk0), rfl, bel.frame _, fun h => by cases h⟩

theorem DiskNobody_holds : Rows.DiskNobodySaid :=
  OpenClaim.holds_of_wide 5 Try.f5 rfl rfl rfl rfl rfl rfl rfl ⟨rfl, rfl, rfl, rfl, rfl⟩ rfl rfl rfl rfl rfl (by kernel_rfl) Try.func5 (by kernel_rfl)
    (of_decide_eq_true (by kernel_rfl)) (by unfold Func.isWrapper; rw [if_neg (of_decide_eq_false (by kernel_rfl))]; exact ⟨rfl, rfl⟩)
    (fun os started H enc _ => DiskNobody_lifted os started H enc)
#print axioms DiskNobody_holds
end Go.Proofs.Ytcdebnppbnmmgaa

