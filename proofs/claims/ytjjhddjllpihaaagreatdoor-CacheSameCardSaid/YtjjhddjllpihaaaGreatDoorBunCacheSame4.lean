/- Texts that the proof of CacheSame stands on, part 4. -/
import Derived.Deep.Slices
import Derived.Deep.Strs
import Derived.ProofKit
import Derived.OpenShut
import Derived.ShutString
import Derived.ChangeOld
import Derived.SizedLaws
import Derived.KernelRfl
import Derived.Test.YtjjhddjllpihaaaGreatDoorBunCacheSame3
set_option maxHeartbeats 4000000
set_option maxRecDepth 100000
set_option linter.unusedSimpArgs false
namespace Go.Proofs.YtjjhddjllpihaaaGreatDoor.X
open Go
def Opens {H : Type} (enc : TypeId × Value → H) (P : Program) (W : World) {α : Type} (t : TypeId) (K : Kd α) : Prop :=
  ∀ fuel cs x, DataW.trod enc P W 0 (fun _ => true) true fuel t cs = some x → ∃ y, K.R 0 W.heap.size W y cs
section
variable {H : Type} {enc : TypeId × Value → H} {P : Program} {W : World}
theorem opens_u8 {t : TypeId} (ht : P.underlying t = some (.int .u8)) : Opens enc P W t KB := fun fuel cs x h => by
  obtain ⟨n, rfl, _, hw⟩ := DataW.trod_int ht h
  simp only [Lit.wf, Bool.and_eq_true, decide_eq_true_eq] at hw
  have h0 : IntKind.u8.min = 0 := rfl
  have h1 : IntKind.u8.max = 255 := rfl
  refine ⟨UInt8.ofNat n.toNat, ?_, trivial⟩
  have : ((UInt8.ofNat n.toNat).toNat : Int) = n := by
    rw [UInt8.toNat_ofNat']
    omega
  show [Value.int IntKind.u8 n] = [Value.int IntKind.u8 ((UInt8.ofNat n.toNat).toNat : Int)]
  rw [this]
theorem opens_i64 {t : TypeId} (ht : P.underlying t = some (.int .i64)) : Opens enc P W t KI := fun fuel cs x h => by
  obtain ⟨n, rfl, _, hw⟩ := DataW.trod_int ht h
  simp only [Lit.wf, Bool.and_eq_true, decide_eq_true_eq] at hw
  have h0 : IntKind.i64.min = -9223372036854775808 := rfl
  have h1 : IntKind.i64.max = 9223372036854775807 := rfl
  exact ⟨n, rfl, by omega⟩
theorem opens_slice {t e : TypeId} {α : Type} {K : Kd α} (ht : P.underlying t = some (.slice e)) (he : P.cellsOf e = K.sz) (h0 : 0 < K.sz) (hK : Opens enc P W e K) : Opens enc P W t (Kd.slice K) := fun fuel cs x h => by
  rcases Go.Deep.open_slice ht h with ⟨rfl, _⟩ | ⟨a, len, cap, m, n, D, Pl, rfl, _, hl, hm, hmm, _, hq⟩
  · exact ⟨[], none, 0, 0, rfl, Nat.le_refl _, Sl.nil K _ _ _ _⟩
  · simp only [if_true] at hmm
    subst hmm
    have key : ∀ i, i < len → ∃ y cs', K.R 0 W.heap.size W y cs' ∧ W.cells? 0 (a.add (i * K.sz)) K.sz = some cs' := fun i hi => by
      obtain ⟨cs', h1, h2⟩ := hq i Zz
      obtain ⟨y, hy⟩ := hK _ _ _ h2
      rw [he] at h1
      exact ⟨y, cs', hy, h1⟩
    have hlist : ∀ q, q ≤ len → ∃ ys : List α, ys.length = q ∧ ∀ j y, ys[j]? = some y → ∃ cs', K.R 0 W.heap.size W y cs' ∧ W.cells? 0 (a.add (j * K.sz)) K.sz = some cs' := by
      intro q
      induction q with
      | zero => intro _; exact ⟨[], rfl, fun j y hy => by simp at hy⟩
      | succ q ih =>
        intro hq'
        obtain ⟨ys, hy1, hy2⟩ := ih Zz
        obtain ⟨y, cs', h1, h2⟩ := key q Zz
        refine ⟨ys ++ [y], by simp [hy1], fun j z hz => ?_⟩
        rcases Nat.lt_or_ge j ys.length with hj | hj
        · rw [List.getElem?_append_left hj] at hz
          exact hy2 j z hz
        · rw [List.getElem?_append_right hj] at hz
          have : j - ys.length = 0 := by
            have := (List.getElem?_eq_some_iff.1 hz).1
            simpa using this
          rw [this] at hz
          simp at hz
          subst hz
          have : j = q := by omega
          subst this
          exact ⟨cs', h1, h2⟩
    obtain ⟨ys, hy1, hy2⟩ := hlist len (Nat.le_refl _)
    have hb : len ≤ 9223372036854775807 := by simp only [maxLen] at hm; omega
    refine ⟨ys, some a, len, _, rfl, hl, hy1, hb, fun hn => ⟨a, rfl, Nat.zero_le _, ?_, fun j y hy => ?_⟩⟩
    · obtain ⟨_, cs', _, h2⟩ := key 0 hn
      have := World.cells?_block h2 h0
      rwa [add_block] at this
    · obtain ⟨cs', h1, h2⟩ := hy2 j y hy
      refine ⟨cs', h1, fun i u hu => ?_⟩
      obtain ⟨_, h3, h4⟩ := World.cells?_some h2
      have := h4 i (by rw [← h3]; exact (List.getElem?_eq_some_iff.1 hu).1)
      rw [add_add] at this
      rw [this, hu]
end
end Go.Proofs.YtjjhddjllpihaaaGreatDoor.X
