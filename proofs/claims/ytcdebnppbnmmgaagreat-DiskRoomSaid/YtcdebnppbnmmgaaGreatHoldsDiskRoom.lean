/- The law DiskRoom of the given program returns true for every input, and what was handed in reads as it did. No condition. -/
import Derived.Test.YtcdebnppbnmmgaaGreatRows
import Derived.Test.YtcdebnppbnmmgaaGreatBunDiskRoom17
namespace Go.Proofs.YtcdebnppbnmmgaaGreat
open Go Go.Proofs.YtcdebnppbnmmgaaGreat.X Go.ChangeShapes Go.WideShapes Go.ChangeAt Go.RowKit
open Go.ChangeMaps (open_string shut_string)
set_option linter.unusedVariables false

theorem DiskRoom_own : ownKnob Tryz.prog.godebug = none := by kernel_rfl
theorem DiskRoom_laidOut : laidOutB Tryz.prog = true := by kernel_rfl

set_option maxRecDepth 100000 in
theorem DiskRoom_lifted (os : Os) (started : os.Started) (H : Type) (enc : TypeId × Value → H) :
    ReturnsInHanded {} Tryz.checked os 3 .any (Rows.diskRoomSpec.pre6 enc Tryz.prog Tryz.f3 Rows.diskRoomRow.domain false) (Rows.diskRoomSpec.post enc Tryz.prog Tryz.f3 false true false false) := by
  refine returnsInHanded_of_change (C := Tryz.checked) DiskRoom_own started (by kernel_rfl) Tryz.func3
    (ChangeSpec.witness6 (enc := enc) (C := Tryz.checked) false ⟨#[], #[.int .i64 0, .slice none 0 0], []⟩ 8 (by kernel_rfl) (by kernel_rfl) (by kernel_rfl) (by kernel_rfl)) ?_
  intro W base args ds gs before hval0 hW hcnd _
  have hval : ∀ (j : Nat) t v, Tryz.f3.params[j]? = some t → args[j]? = some v → Value.okWide Tryz.prog W .any base t v := hval0
  have hW' := hW
  obtain ⟨p, q, hA0, hV, rfl, hfz, hnd⟩ := hW
  have hA : DataW.TrodAll enc Tryz.prog W 0 (fun _ => true) true Tryz.f3.params.toList args.toList ds p := hA0
  rw [Tryz.params3] at hA hval
  obtain ⟨v0, vs0, d0, ds0, p0, q0, hargs, rfl, rfl, h0, r0⟩ := trodAll_cons hA
  obtain ⟨v1, vs1, d1, ds1, p1, q1, rfl, rfl, rfl, h1, r1⟩ := trodAll_cons r0
  obtain ⟨rfl, rfl, rfl⟩ := trodAll_nil r1
  obtain rfl : args = #[v0, v1] := by cases args; simp_all
  obtain ⟨rfl, rfl⟩ := trodVars_none hV
  have k0 := h0
  have lt0 : ∀ x ∈ p0, x.block < W.heap.size := by obtain ⟨m, hm⟩ := k0; exact DataW.trod_lt m _ _ _ hm
  obtain ⟨y0, g0⟩ : ∃ y, (KI).R 0 W.heap.size W y v0.cells.toList := by obtain ⟨fuel, hf⟩ := h0; exact (opens_i64 Tryz.underlying3) fuel _ _ hf
  obtain ⟨a0, rfl⟩ := okWide_int Tryz.underlying3 (hval 0 3 v0 rfl rfl)
  obtain ⟨e0, s0⟩ := g0
  simp [Value.cells] at e0
  subst e0
  have k1 := h1
  have lt1 : ∀ x ∈ p1, x.block < W.heap.size := by obtain ⟨m, hm⟩ := k1; exact DataW.trod_lt m _ _ _ hm
  obtain ⟨y1, g1⟩ : ∃ y, ((Kd.slice (Kd.pair KI (Kd.pair KS (Kd.pair KS (Kd.pair KI (Kd.pair (Kd.slice KB) (Kd.pair KI (Kd.pair (Kd.slice KBo) (Kd.slice KBo)))))))))).R 0 W.heap.size W y v1.cells.toList := by obtain ⟨fuel, hf⟩ := h1; exact (opens_slice (K := (Kd.pair KI (Kd.pair KS (Kd.pair KS (Kd.pair KI (Kd.pair (Kd.slice KB) (Kd.pair KI (Kd.pair (Kd.slice KBo) (Kd.slice KBo))))))))) Tryz.underlying22 (by kernel_rfl) (by decide) (opens_struct Tryz.underlying36 (by kernel_rfl) (.cons (K := KI) rfl (by kernel_rfl) (opens_i64 Tryz.underlying3) (.cons (K := KS) rfl (by kernel_rfl) (opens_string Tryz.underlying9) (.cons (K := KS) rfl (by kernel_rfl) (opens_string Tryz.underlying9) (.cons (K := KI) rfl (by kernel_rfl) (opens_i64 Tryz.underlying3) (.cons (K := (Kd.slice KB)) rfl (by kernel_rfl) (opens_slice (K := KB) Tryz.underlying31 (by kernel_rfl) (by decide) (opens_u8 Tryz.underlying5)) (.one (K := (Kd.pair KI (Kd.pair (Kd.slice KBo) (Kd.slice KBo)))) rfl (by kernel_rfl) (opens_struct3 (K := KI) (L := (Kd.slice KBo)) (M := (Kd.slice KBo)) Tryz.underlying34 (by kernel_rfl) ⟨rfl, by kernel_rfl⟩ ⟨rfl, by kernel_rfl⟩ ⟨rfl, by kernel_rfl⟩ (opens_i64 Tryz.underlying3) (opens_slice (K := KBo) Tryz.underlying32 (by kernel_rfl) (by decide) (opens_bool Tryz.underlying4)) (opens_slice (K := KBo) Tryz.underlying32 (by kernel_rfl) (by decide) (opens_bool Tryz.underlying4))))))))))) fuel _ _ hf
  obtain ⟨A1, n1, c1, rfl⟩ := okWide_slice Tryz.underlying22 (hval 1 22 v1 rfl rfl)
  obtain ⟨A1', n1', c1', e1, hc1, s1⟩ := g1
  simp [Value.cells] at e1
  obtain ⟨rfl, rfl, rfl⟩ := e1
  clear hA0 hval0
  refine (Go.Proofs.YtcdebnppbnmmgaaGreat.X.Ret.calls (DiskRoom_c W _ s0 _ _ _ _ hc1 s1)).mono fun e W' ⟨v, he, hv, hk⟩ => ?_
  subst he; subst hv
  have bel := hk.below
  exact ⟨_, rfl, _, _, _, [], _, [], hW', trodAll_mk1 (shut_bool Tryz.underlying4 _), (trodAll_cons_mk (Below.trod DiskRoom_laidOut (by kernel_rfl) (of_decide_eq_true (by kernel_rfl)) k0 bel lt0) (trodAll_cons_mk (Below.trod DiskRoom_laidOut (by kernel_rfl) (of_decide_eq_true (by kernel_rfl)) k1 bel lt1) trodAll_mk0)), rfl, bel.frame _, fun h => by cases h⟩

theorem DiskRoom_holds : Rows.DiskRoomSaid :=
  OpenClaim.holds_of_wide 3 Tryz.f3 rfl rfl rfl rfl rfl rfl rfl ⟨rfl, rfl, rfl, rfl, rfl⟩ rfl rfl rfl rfl rfl (by kernel_rfl) Tryz.func3 (by kernel_rfl)
    (of_decide_eq_true (by kernel_rfl)) (by unfold Func.isWrapper; rw [if_neg (of_decide_eq_false (by kernel_rfl))]; exact ⟨rfl, rfl⟩)
    (fun os started H enc _ => DiskRoom_lifted os started H enc)
#print axioms DiskRoom_holds
end Go.Proofs.YtcdebnppbnmmgaaGreat

