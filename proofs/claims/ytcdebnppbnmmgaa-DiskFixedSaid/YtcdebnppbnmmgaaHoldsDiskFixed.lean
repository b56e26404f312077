/- The law DiskFixed of the given program returns true for every input, and what was handed in reads as it did. No condition. -/
import Derived.Test.YtcdebnppbnmmgaaRows
import Derived.Test.YtcdebnppbnmmgaaBunDiskFixed16
namespace Go.Proofs.Ytcdebnppbnmmgaa
open Go Go.Proofs.Ytcdebnppbnmmgaa.X Go.ChangeShapes Go.WideShapes Go.ChangeAt Go.RowKit
open Go.ChangeMaps (open_string shut_string)
set_option linter.unusedVariables false

theorem DiskFixed_own : ownKnob Try.prog.godebug = none := by kernel_rfl
theorem DiskFixed_laidOut : laidOutB Try.prog = true := by kernel_rfl

set_option maxRecDepth 100000 in
theorem DiskFixed_lifted (os : Os) (started : os.Started) (H : Type) (enc : TypeId × Value → H) :
    ReturnsInHanded {} Try.checked os 4 .any (Rows.diskFixedSpec.pre6 enc Try.prog Try.f4 Rows.diskFixedRow.domain false) (Rows.diskFixedSpec.post enc Try.prog Try.f4 false true false false) := by
  refine returnsInHanded_of_change (C := Try.checked) DiskFixed_own started (by kernel_rfl) Try.func4
    (ChangeSpec.witness6 (enc := enc) (C := Try.checked) false ⟨#[], #[.slice none 0 0, .slice none 0 0, .agg #[.int .i64 0, .slice none 0 0, .slice none 0 0]], []⟩ 8 (by kernel_rfl) (by kernel_rfl) (by kernel_rfl) (by kernel_rfl)) ?_
  intro W base args ds gs before hval0 hW hcnd _
  have hval : ∀ (j : Nat) t v, Try.f4.params[j]? = some t → args[j]? = some v → Value.okWide Try.prog W .any base t v := hval0
  have hW' := hW
  obtain ⟨p, q, hA0, hV, rfl, hfz, hnd⟩ := hW
  have hA : DataW.TrodAll enc Try.prog W 0 (fun _ => true) true Try.f4.params.toList args.toList ds p := hA0
  rw [Try.params4] at hA hval
  obtain ⟨v0, vs0, d0, ds0, p0, q0, hargs, rfl, rfl, h0, r0⟩ := trodAll_cons hA
  obtain ⟨v1, vs1, d1, ds1, p1, q1, rfl, rfl, rfl, h1, r1⟩ := trodAll_cons r0
  obtain ⟨v2, vs2, d2, ds2, p2, q2, rfl, rfl, rfl, h2, r2⟩ := trodAll_cons r1
  obtain ⟨rfl, rfl, rfl⟩ := trodAll_nil r2
  obtain rfl : args = #[v0, v1, v2] := by cases args; simp_all
  obtain ⟨rfl, rfl⟩ := trodVars_none hV
  have k0 := h0
  have lt0 : ∀ x ∈ p0, x.block < W.heap.size := by obtain ⟨m, hm⟩ := k0; exact DataW.trod_lt m _ _ _ hm
  obtain ⟨y0, g0⟩ : ∃ y, ((Kd.slice KB)).R 0 W.heap.size W y v0.cells.toList := by obtain ⟨fuel, hf⟩ := h0; exact (opens_slice (K := KB) Try.underlying22 (by kernel_rfl) (by decide) (opens_u8 Try.underlying5)) fuel _ _ hf
  obtain ⟨A0, n0, c0, rfl⟩ := okWide_slice Try.underlying22 (hval 0 22 v0 rfl rfl)
  obtain ⟨A0', n0', c0', e0, hc0, s0⟩ := g0
  simp [Value.cells] at e0
  obtain ⟨rfl, rfl, rfl⟩ := e0
  have k1 := h1
  have lt1 : ∀ x ∈ p1, x.block < W.heap.size := by obtain ⟨m, hm⟩ := k1; exact DataW.trod_lt m _ _ _ hm
  obtain ⟨y1, g1⟩ : ∃ y, ((Kd.slice (Kd.pair KI (Kd.pair KS (Kd.pair KS (Kd.pair KI (Kd.pair (Kd.slice KB) (Kd.pair KI (Kd.pair (Kd.slice KBo) (Kd.slice KBo)))))))))).R 0 W.heap.size W y v1.cells.toList := by obtain ⟨fuel, hf⟩ := h1; exact (opens_slice (K := (Kd.pair KI (Kd.pair KS (Kd.pair KS (Kd.pair KI (Kd.pair (Kd.slice KB) (Kd.pair KI (Kd.pair (Kd.slice KBo) (Kd.slice KBo))))))))) Try.underlying40 (by kernel_rfl) (by decide) (opens_struct Try.underlying48 (by kernel_rfl) (.cons (K := KI) rfl (by kernel_rfl) (opens_i64 Try.underlying3) (.cons (K := KS) rfl (by kernel_rfl) (opens_string Try.underlying9) (.cons (K := KS) rfl (by kernel_rfl) (opens_string Try.underlying9) (.cons (K := KI) rfl (by kernel_rfl) (opens_i64 Try.underlying3) (.cons (K := (Kd.slice KB)) rfl (by kernel_rfl) (opens_slice (K := KB) Try.underlying22 (by kernel_rfl) (by decide) (opens_u8 Try.underlying5)) (.one (K := (Kd.pair KI (Kd.pair (Kd.slice KBo) (Kd.slice KBo)))) rfl (by kernel_rfl) (opens_struct3 (K := KI) (L := (Kd.slice KBo)) (M := (Kd.slice KBo)) Try.underlying25 (by kernel_rfl) ⟨rfl, by kernel_rfl⟩ ⟨rfl, by kernel_rfl⟩ ⟨rfl, by kernel_rfl⟩ (opens_i64 Try.underlying3) (opens_slice (K := KBo) Try.underlying23 (by kernel_rfl) (by decide) (opens_bool Try.underlying4)) (opens_slice (K := KBo) Try.underlying23 (by kernel_rfl) (by decide) (opens_bool Try.underlying4))))))))))) fuel _ _ hf
  obtain ⟨A1, n1, c1, rfl⟩ := okWide_slice Try.underlying40 (hval 1 40 v1 rfl rfl)
  obtain ⟨A1', n1', c1', e1, hc1, s1⟩ := g1
  simp [Value.cells] at e1
  obtain ⟨rfl, rfl, rfl⟩ := e1
  have k2 := h2
  have lt2 : ∀ x ∈ p2, x.block < W.heap.size := by obtain ⟨m, hm⟩ := k2; exact DataW.trod_lt m _ _ _ hm
  obtain ⟨y2, g2⟩ : ∃ y, ((Kd.pair KI (Kd.pair (Kd.slice KBo) (Kd.slice KBo)))).R 0 W.heap.size W y v2.cells.toList := by obtain ⟨fuel, hf⟩ := h2; exact (opens_struct3 (K := KI) (L := (Kd.slice KBo)) (M := (Kd.slice KBo)) Try.underlying25 (by kernel_rfl) ⟨rfl, by kernel_rfl⟩ ⟨rfl, by kernel_rfl⟩ ⟨rfl, by kernel_rfl⟩ (opens_i64 Try.underlying3) (opens_slice (K := KBo) Try.underlying23 (by kernel_rfl) (by decide) (opens_bool Try.underlying4)) (opens_slice (K := KBo) Try.underlying23 (by kernel_rfl) (by decide) (opens_bool Try.underlying4))) fuel _ _ hf
  obtain ⟨a2, rfl, z2⟩ := okWide_struct Try.underlying25 (hval 2 25 v2 rfl rfl)
  clear hA0 hval0
  refine (Go.Proofs.Ytcdebnppbnmmgaa.X.Ret.calls (DiskFixed_c W _ _ _ _ hc0 s0 _ _ _ _ hc1 s1 _ _ g2)).mono fun e W' ⟨v, he, hv, hk⟩ => ?_
  subst he; subst hv
  have bel := hk.below
  exact ⟨_, rfl, _, _, _, [], _, [], hW', trodAll_mk1 (shut_bool Try.underlying4 _), (trodAll_cons_mk (Below.trod DiskFixed_laidOut (by kernel_rfl) (of_decide_eq_true (by kernel_rfl)) k0 bel lt0) (trodAll_cons_mk (Below.trod DiskFixed_laidOut (by kernel_rfl) (of_decide_eq_true (by kernel_rfl)) k1 bel lt1) (trodAll_cons_mk (Below.trod DiskFixed_laidOut (by kernel_rfl) (of_decide_eq_true (by kernel_rfl)) k2 bel lt2) trodAll_mk0))), rfl, bel.frame _, fun h => by cases h⟩

theorem DiskFixed_holds : Rows.DiskFixedSaid :=
  OpenClaim.holds_of_wide 4 Try.f4 rfl rfl rfl rfl rfl rfl rfl ⟨rfl, rfl, rfl, rfl, rfl⟩ rfl rfl rfl rfl rfl (by kernel_rfl) Try.func4 (by kernel_rfl)
    (of_decide_eq_true (by kernel_rfl)) (by unfold Func.isWrapper; rw [if_neg (of_decide_eq_false (by kernel_rfl))]; exact ⟨rfl, rfl⟩)
    (fun os started H enc _ => DiskFixed_lifted os started H enc)
#print axioms DiskFixed_holds
end Go.Proofs.Ytcdebnppbnmmgaa

