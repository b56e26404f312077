/- The law CacheNobody of the given program returns true for every input, and what was handed in reads as it did. No condition. -/
import Derived.Test.YtjjhddjllpihaaaRows
import Derived.Test.YtjjhddjllpihaaaBunCacheNobody12
namespace Go.Proofs.Ytjjhddjllpihaaa
open Go Go.Proofs.Ytjjhddjllpihaaa.X Go.ChangeShapes Go.WideShapes Go.ChangeAt Go.RowKit
open Go.ChangeMaps (open_string shut_string)
set_option linter.unusedVariables false

theorem CacheNobody_own : ownKnob Try.prog.godebug = none := by kernel_rfl
theorem CacheNobody_laidOut : laidOutB Try.prog = true := by kernel_rfl

set_option maxRecDepth 100000 in
theorem CacheNobody_lifted (os : Os) (started : os.Started) (H : Type) (enc : TypeId × Value → H) :
    ReturnsInHanded {} Try.checked os 6 .any (Rows.cacheNobodySpec.pre6 enc Try.prog Try.f6 Rows.cacheNobodyRow.domain false) (Rows.cacheNobodySpec.post enc Try.prog Try.f6 false true false false) := by
  refine returnsInHanded_of_change (C := Try.checked) CacheNobody_own started (by kernel_rfl) Try.func6
    (ChangeSpec.witness6 (enc := enc) (C := Try.checked) false ⟨#[], #[.agg #[.int .i64 0, .string ByteArray.empty, .int .i64 0, .slice none 0 0]], []⟩ 8 (by kernel_rfl) (by kernel_rfl) (by kernel_rfl) (by kernel_rfl)) ?_
  intro W base args ds gs before hval0 hW hcnd _
  have hval : ∀ (j : Nat) t v, Try.f6.params[j]? = some t → args[j]? = some v → Value.okWide Try.prog W .any base t v := hval0
  have hW' := hW
  obtain ⟨p, q, hA0, hV, rfl, hfz, hnd⟩ := hW
  have hA : DataW.TrodAll enc Try.prog W 0 (fun _ => true) true Try.f6.params.toList args.toList ds p := hA0
  rw [Try.params6] at hA hval
  obtain ⟨v0, vs0, d0, ds0, p0, q0, hargs, rfl, rfl, h0, r0⟩ := trodAll_cons hA
  obtain ⟨rfl, rfl, rfl⟩ := trodAll_nil r0
  obtain rfl : args = #[v0] := by cases args; simp_all
  obtain ⟨rfl, rfl⟩ := trodVars_none hV
  have k0 := h0
  have lt0 : ∀ x ∈ p0, x.block < W.heap.size := by obtain ⟨m, hm⟩ := k0; exact DataW.trod_lt m _ _ _ hm
  obtain ⟨y0, g0⟩ : ∃ y, ((Kd.pair KI (Kd.pair (Kd.pair KS KI) (Kd.slice (Kd.pair (Kd.slice KV) KI))))).R 0 W.heap.size W y v0.cells.toList := by obtain ⟨fuel, hf⟩ := h0; exact (opens_struct3 (K := KI) (L := (Kd.pair KS KI)) (M := (Kd.slice (Kd.pair (Kd.slice KV) KI))) Try.underlying44 (by kernel_rfl) ⟨rfl, by kernel_rfl⟩ ⟨rfl, by kernel_rfl⟩ ⟨rfl, by kernel_rfl⟩ (opens_i64 Try.underlying3) (opens_struct2 (K := KS) (L := KI) Try.underlying30 (by kernel_rfl) ⟨rfl, by kernel_rfl⟩ ⟨rfl, by kernel_rfl⟩ (opens_string Try.underlying9) (opens_i64 Try.underlying3)) (opens_slice (K := (Kd.pair (Kd.slice KV) KI)) Try.underlying33 (by kernel_rfl) (by decide) (opens_struct2 (K := (Kd.slice KV)) (L := KI) Try.underlying76 (by kernel_rfl) ⟨rfl, by kernel_rfl⟩ ⟨rfl, by kernel_rfl⟩ (opens_slice (K := KV) Try.underlying74 (by kernel_rfl) (by decide) opens_V) (opens_i64 Try.underlying2)))) fuel _ _ hf
  obtain ⟨a0, rfl, z0⟩ := okWide_struct Try.underlying44 (hval 0 44 v0 rfl rfl)
  clear hA0 hval0
  refine (Go.Proofs.Ytjjhddjllpihaaa.X.Ret.calls (CacheNobody_c W _ _ g0)).mono fun e W' ⟨v, he, hv, hk⟩ => ?_
  subst he; subst hv
  have bel := hk.below
  exact ⟨_, rfl, _, _, _, [], _, [], hW', trodAll_mk1 (shut_bool Try.underlying4 _), (trodAll_cons_mk (Below.trod CacheNobody_laidOut (by kernel_rfl) (of_decide_eq_true (by kernel_rfl)) k0 bel lt0) trodAll_mk0), rfl, bel.frame _, fun h => by cases h⟩

theorem CacheNobody_holds : Rows.CacheNobodySaid :=
  OpenClaim.holds_of_wide 6 Try.f6 rfl rfl rfl rfl rfl rfl rfl ⟨rfl, rfl, rfl, rfl, rfl⟩ rfl rfl rfl rfl rfl (by kernel_rfl) Try.func6 (by kernel_rfl)
    (of_decide_eq_true (by kernel_rfl)) (by unfold Func.isWrapper; rw [if_neg (of_decide_eq_false (by kernel_rfl))]; exact ⟨rfl, rfl⟩)
    (fun os started H enc _ => CacheNobody_lifted os started H enc)
#print axioms CacheNobody_holds
end Go.Proofs.Ytjjhddjllpihaaa

