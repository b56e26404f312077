/- The law CacheRuns of the given program returns true for every input, and what was handed in reads as it did. No condition. -/
import Derived.Test.YtjjhddjllpihaaaRows
import Derived.Test.YtjjhddjllpihaaaBunCacheRuns14
namespace Go.Proofs.Ytjjhddjllpihaaa
open Go Go.Proofs.Ytjjhddjllpihaaa.X Go.ChangeShapes Go.WideShapes Go.ChangeAt Go.RowKit
open Go.ChangeMaps (open_string shut_string)
set_option linter.unusedVariables false

theorem CacheRuns_own : ownKnob Try.prog.godebug = none := by kernel_rfl
theorem CacheRuns_laidOut : laidOutB Try.prog = true := by kernel_rfl

set_option maxRecDepth 100000 in
theorem CacheRuns_lifted (os : Os) (started : os.Started) (H : Type) (enc : TypeId × Value → H) :
    ReturnsInHanded {} Try.checked os 4 .any (Rows.cacheRunsSpec.pre6 enc Try.prog Try.f4 Rows.cacheRunsRow.domain false) (Rows.cacheRunsSpec.post enc Try.prog Try.f4 false true false false) := by
  refine returnsInHanded_of_change_sized (C := Try.checked) CacheRuns_own started (by kernel_rfl) Try.func4
    (ChangeSpec.witness6 (enc := enc) (C := Try.checked) false ⟨#[], #[.int .i64 0, .slice none 0 0], []⟩ 8 (by kernel_rfl) (by kernel_rfl) (by kernel_rfl) (by kernel_rfl)) ?_
  intro W base args ds gs before hval0 hW hcnd hsz _
  have hval : ∀ (j : Nat) t v, Try.f4.params[j]? = some t → args[j]? = some v → Value.okWide Try.prog W .any base t v := hval0
  have hW' := hW
  obtain ⟨p, q, hA0, hV, rfl, hfz, hnd⟩ := hW
  have hA : DataW.TrodAll enc Try.prog W 0 (fun _ => true) true Try.f4.params.toList args.toList ds p := hA0
  rw [Try.params4] at hA hval
  obtain ⟨v0, vs0, d0, ds0, p0, q0, hargs, rfl, rfl, h0, r0⟩ := trodAll_cons hA
  obtain ⟨v1, vs1, d1, ds1, p1, q1, rfl, rfl, rfl, h1, r1⟩ := trodAll_cons r0
  obtain ⟨rfl, rfl, rfl⟩ := trodAll_nil r1
  obtain rfl : args = #[v0, v1] := by cases args; simp_all
  obtain ⟨rfl, rfl⟩ := trodVars_none hV
  have k0 := h0
  have lt0 : ∀ x ∈ p0, x.block < W.heap.size := by obtain ⟨m, hm⟩ := k0; exact DataW.trod_lt m _ _ _ hm
  obtain ⟨y0, g0⟩ : ∃ y, (KI).R 0 W.heap.size W y v0.cells.toList := by obtain ⟨fuel, hf⟩ := h0; exact (opens_i64 Try.underlying3) fuel _ _ hf
  obtain ⟨a0, rfl⟩ := okWide_int Try.underlying3 (hval 0 3 v0 rfl rfl)
  obtain ⟨e0, s0⟩ := g0
  simp [Value.cells] at e0
  subst e0
  have k1 := h1
  have lt1 : ∀ x ∈ p1, x.block < W.heap.size := by obtain ⟨m, hm⟩ := k1; exact DataW.trod_lt m _ _ _ hm
  have oz1 := ((opensZ_slice (K := (Kd.pair KI (Kd.pair (Kd.pair KS KI) (Kd.slice (Kd.pair (Kd.slice KV) KI))))) (nb := 56) Try.underlying38 (by kernel_rfl) (by decide) (by kernel_rfl) (opensZ_struct3 (K := KI) (L := (Kd.pair KS KI)) (M := (Kd.slice (Kd.pair (Kd.slice KV) KI))) Try.underlying44 (by kernel_rfl) ⟨rfl, by kernel_rfl⟩ ⟨rfl, by kernel_rfl⟩ ⟨rfl, by kernel_rfl⟩ (opensZ_of (opens_i64 Try.underlying3)) (opensZ_struct2 (K := KS) (L := KI) Try.underlying30 (by kernel_rfl) ⟨rfl, by kernel_rfl⟩ ⟨rfl, by kernel_rfl⟩ (opensZ_of (opens_string Try.underlying9)) (opensZ_of (opens_i64 Try.underlying3))) (opensZ_slice (K := (Kd.pair (Kd.slice KV) KI)) (nb := 32) Try.underlying33 (by kernel_rfl) (by decide) (by kernel_rfl) (opensZ_struct2 (K := (Kd.slice KV)) (L := KI) Try.underlying76 (by kernel_rfl) ⟨rfl, by kernel_rfl⟩ ⟨rfl, by kernel_rfl⟩ (opensZ_slice (K := KV) (nb := 32) Try.underlying74 (by kernel_rfl) (by decide) (by kernel_rfl) (opensZ_of opens_V)) (opensZ_of (opens_i64 Try.underlying2)))))) : OpensZ enc Try.prog W 38 (Kd.slice (Kd.pair KI (Kd.pair (Kd.pair KS KI) (Kd.slice (Kd.pair (Kd.slice KV) KI))))) _)
  obtain ⟨fuel1, hf1⟩ := h1
  obtain ⟨y1, g1, z1⟩ := oz1 fuel1 _ _ hf1 (fun n hn => by have := List.all_eq_true.1 hsz n (DataW.weights_mem_each (j := 1) (t := 38) (d := d1) rfl rfl n hn); simpa using this)
  obtain ⟨A1, n1, c1, rfl⟩ := okWide_slice Try.underlying38 (hval 1 38 v1 rfl rfl)
  obtain ⟨A1', n1', c1', e1, hc1, s1⟩ := g1
  simp [Value.cells] at e1
  obtain ⟨rfl, rfl, rfl⟩ := e1
  clear hA0 hval0
  refine (Go.Proofs.Ytjjhddjllpihaaa.X.Ret.calls (CacheRuns_c W _ s0 _ _ _ _ hc1 s1 (fun o ho q hq => ((z1.2 o ho).2.2.2 q hq).1.1))).mono fun e W' ⟨v, he, hv, hk⟩ => ?_
  subst he; subst hv
  have bel := hk.below
  exact ⟨_, rfl, _, _, _, [], _, [], hW', trodAll_mk1 (shut_bool Try.underlying4 _), (trodAll_cons_mk (Below.trod CacheRuns_laidOut (by kernel_rfl) (of_decide_eq_true (by kernel_rfl)) k0 bel lt0) (trodAll_cons_mk (Below.trod CacheRuns_laidOut (by kernel_rfl) (of_decide_eq_true (by kernel_rfl)) k1 bel lt1) trodAll_mk0)), rfl, bel.frame _, fun h => by cases h⟩

theorem CacheRuns_holds : Rows.CacheRunsSaid :=
  OpenClaim.holds_of_wide 4 Try.f4 rfl rfl rfl rfl rfl rfl rfl ⟨rfl, rfl, rfl, rfl, rfl⟩ rfl rfl rfl rfl rfl (by kernel_rfl) Try.func4 (by kernel_rfl)
    (of_decide_eq_true (by kernel_rfl)) (by unfold Func.isWrapper; rw [if_neg (of_decide_eq_false (by kernel_rfl))]; exact ⟨rfl, rfl⟩)
    (fun os started H enc _ => CacheRuns_lifted os started H enc)
#print axioms CacheRuns_holds
end Go.Proofs.Ytjjhddjllpihaaa

