/- The law DiskSectors of the given program returns true for every input, and what was handed in reads as it did. No condition. -/
import Derived.Test.YtcdebnppbnmmgaaRows
import Derived.Test.YtcdebnppbnmmgaaBunDiskSectors15
namespace Go.Proofs.Ytcdebnppbnmmgaa
open Go Go.Proofs.Ytcdebnppbnmmgaa.X Go.ChangeShapes Go.WideShapes Go.ChangeAt Go.RowKit
open Go.ChangeMaps (open_string shut_string)
set_option linter.unusedVariables false

theorem DiskSectors_own : ownKnob Try.prog.godebug = none := by kernel_rfl
theorem DiskSectors_laidOut : laidOutB Try.prog = true := by kernel_rfl

set_option maxRecDepth 100000 in
theorem DiskSectors_lifted (os : Os) (started : os.Started) (H : Type) (enc : TypeId × Value → H) :
    ReturnsInHanded {} Try.checked os 3 .any (Rows.diskSectorsSpec.pre6 enc Try.prog Try.f3 Rows.diskSectorsRow.domain false) (Rows.diskSectorsSpec.post enc Try.prog Try.f3 false true false false) := by
  refine returnsInHanded_of_change (C := Try.checked) DiskSectors_own started (by kernel_rfl) Try.func3
    (ChangeSpec.witness6 (enc := enc) (C := Try.checked) false ⟨#[], #[.slice none 0 0, .int .i64 0, .slice none 0 0, .agg #[.int .i64 0, .slice none 0 0, .slice none 0 0]], []⟩ 8 (by kernel_rfl) (by kernel_rfl) (by kernel_rfl) (by kernel_rfl)) ?_
  intro W base args ds gs before hval0 hW hcnd _
  have hval : ∀ (j : Nat) t v, Try.f3.params[j]? = some t → args[j]? = some v → Value.okWide Try.prog W .any base t v := hval0
  have hW' := hW
  obtain ⟨p, q, hA0, hV, rfl, hfz, hnd⟩ := hW
  have hA : DataW.TrodAll enc Try.prog W 0 (fun _ => true) true Try.f3.params.toList args.toList ds p := hA0
  rw [Try.params3] at hA hval
  obtain ⟨v0, vs0, d0, ds0, p0, q0, hargs, rfl, rfl, h0, r0⟩ := trodAll_cons hA
  obtain ⟨v1, vs1, d1, ds1, p1, q1, rfl, rfl, rfl, h1, r1⟩ := trodAll_cons r0
  obtain ⟨v2, vs2, d2, ds2, p2, q2, rfl, rfl, rfl, h2, r2⟩ := trodAll_cons r1
  obtain ⟨v3, vs3, d3, ds3, p3, q3, rfl, rfl, rfl, h3, r3⟩ := trodAll_cons r2
  obtain ⟨rfl, rfl, rfl⟩ := trodAll_nil r3
  obtain rfl : args = #[v0, v1, v2, v3] := by cases args; simp_all
  obtain ⟨rfl, rfl⟩ := trodVars_none hV
  have k0 := h0
  have lt0 : ∀ x ∈ p0, x.block < W.heap.size := by obtain ⟨m, hm⟩ := k0; exact DataW.trod_lt m _ _ _ hm
  obtain ⟨y0, g0⟩ : ∃ y, ((Kd.slice KB)).R 0 W.heap.size W y v0.cells.toList := by obtain ⟨fuel, hf⟩ := h0; exact (opens_slice (K := KB) Try.underlying22 (by kernel_rfl) (by decide) (opens_u8 Try.underlying5)) fuel _ _ hf
  obtain ⟨A0, n0, c0, rfl⟩ := okWide_slice Try.underlying22 (hval 0 22 v0 rfl rfl)
  obtain ⟨A0', n0', c0', e0, hc0, s0⟩ := g0
  simp [Value.cells] at e0
  obtain ⟨rfl, rfl, rfl⟩ := e0
  have k1 := h1
  have lt1 : ∀ x ∈ p1, x.block < W.heap.size := by obtain ⟨m, hm⟩ := k1; exact DataW.trod_lt m _ _ _ hm
  obtain ⟨y1, g1⟩ : ∃ y, (KI).R 0 W.heap.size W y v1.cells.toList := by obtain ⟨fuel, hf⟩ := h1; exact (opens_i64 Try.underlying3) fuel _ _ hf
  obtain ⟨a1, rfl⟩ := okWide_int Try.underlying3 (hval 1 3 v1 rfl rfl)
  obtain ⟨e1, s1⟩ := g1
  simp [Value.cells] at e1
  subst e1
  have k2 := h2
  have lt2 : ∀ x ∈ p2, x.block < W.heap.size := by obtain ⟨m, hm⟩ := k2; exact DataW.trod_lt m _ _ _ hm
  obtain ⟨y2, g2⟩ : ∃ y, ((Kd.slice KB)).R 0 W.heap.size W y v2.cells.toList := by obtain ⟨fuel, hf⟩ := h2; exact (opens_slice (K := KB) Try.underlying22 (by kernel_rfl) (by decide) (opens_u8 Try.underlying5)) fuel _ _ hf
  obtain ⟨A2, n2, c2, rfl⟩ := okWide_slice Try.underlying22 (hval 2 22 v2 rfl rfl)
  obtain ⟨A2', n2', c2', e2, hc2, s2⟩ := g2
  simp [Value.cells] at e2
  obtain ⟨rfl, rfl, rfl⟩ := e2
  have k3 := h3
  have lt3 : ∀ x ∈ p3, x.block < W.heap.size := by obtain ⟨m, hm⟩ := k3; exact DataW.trod_lt m _ _ _ hm
  obtain ⟨y3, g3⟩ : ∃ y, ((Kd.pair KI (Kd.pair (Kd.slice KBo) (Kd.slice KBo)))).R 0 W.heap.size W y v3.cells.toList := by obtain ⟨fuel, hf⟩ := h3; exact (opens_struct3 (K := KI) (L := (Kd.slice KBo)) (M := (Kd.slice KBo)) Try.underlying25 (by kernel_rfl) ⟨rfl, by kernel_rfl⟩ ⟨rfl, by kernel_rfl⟩ ⟨rfl, by kernel_rfl⟩ (opens_i64 Try.underlying3) (opens_slice (K := KBo) Try.underlying23 (by kernel_rfl) (by decide) (opens_bool Try.underlying4)) (opens_slice (K := KBo) Try.underlying23 (by kernel_rfl) (by decide) (opens_bool Try.underlying4))) fuel _ _ hf
  obtain ⟨a3, rfl, z3⟩ := okWide_struct Try.underlying25 (hval 3 25 v3 rfl rfl)
  clear hA0 hval0
  refine (Go.Proofs.Ytcdebnppbnmmgaa.X.Ret.calls (DiskSectors_c W _ _ _ _ hc0 s0 _ s1 _ _ _ _ hc2 s2 _ _ g3)).mono fun e W' ⟨v, he, hv, hk⟩ => ?_
  subst he; subst hv
  have bel := hk.below
  exact ⟨_, rfl, _, _, _, [], _, [], hW', trodAll_mk1 (shut_bool Try.underlying4 _), (trodAll_cons_mk (Below.trod DiskSectors_laidOut (by kernel_rfl) (of_decide_eq_true (by kernel_rfl)) k0 bel lt0) (trodAll_cons_mk (Below.trod DiskSectors_laidOut (by kernel_rfl) (of_decide_eq_true (by kernel_rfl)) k1 bel lt1) (trodAll_cons_mk (Below.trod DiskSectors_laidOut (by kernel_rfl) (of_decide_eq_true (by kernel_rfl)) k2 bel lt2) (trodAll_cons_mk (Below.trod DiskSectors_laidOut (by kernel_rfl) (of_decide_eq_true (by kernel_rfl)) k3 bel lt3) trodAll_mk0)))), rfl, bel.frame _, fun h => by cases h⟩

theorem DiskSectors_holds : Rows.DiskSectorsSaid :=
  OpenClaim.holds_of_wide 3 Try.f3 rfl rfl rfl rfl rfl rfl rfl ⟨rfl, rfl, rfl, rfl, rfl⟩ rfl rfl rfl rfl rfl (by kernel_rfl) Try.func3 (by kernel_rfl)
    (of_decide_eq_true (by kernel_rfl)) (by unfold Func.isWrapper; rw [if_neg (of_decide_eq_false (by kernel_rfl))]; exact ⟨rfl, rfl⟩)
    (fun os started H enc _ => DiskSectors_lifted os started H enc)
#print axioms DiskSectors_holds
end Go.Proofs.Ytcdebnppbnmmgaa

