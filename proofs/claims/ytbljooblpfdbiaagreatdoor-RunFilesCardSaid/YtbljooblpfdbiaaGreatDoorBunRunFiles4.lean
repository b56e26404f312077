/- Texts that the proof of RunFiles stands on, part 4. -/
import Derived.Deep.Slices
import Derived.Deep.Strs
import Derived.ProofKit
import Derived.OpenShut
import Derived.ShutString
import Derived.ChangeOld
import Derived.SizedLaws
import Derived.KernelRfl
import Derived.Test.YtbljooblpfdbiaaGreatDoorBunRunFiles3
set_option maxHeartbeats 4000000
set_option maxRecDepth 100000
set_option linter.unusedSimpArgs false
namespace Go.Proofs.YtbljooblpfdbiaaGreatDoor.X
open Go
def Opens {H : Type} (enc : TypeId × Value → H) (P : Program) (W : World) {α : Type} (t : TypeId) (K : Kd α) : Prop :=
  ∀ fuel cs x, DataW.trod enc P W 0 (fun _ => true) true fuel t cs = some x → ∃ y, K.R 0 W.heap.size W y cs
def KS : Kd ByteArray := Kd.plain 1 (fun s => [.string s]) (fun s => s.size ≤ 9223372036854775807) (fun _ => rfl) (fun _ u hu => by simp at hu; subst hu; rfl)
section
variable {H : Type} {enc : TypeId × Value → H} {P : Program} {W : World}
theorem opens_i64 {t : TypeId} (ht : P.underlying t = some (.int .i64)) : Opens enc P W t KI := fun fuel cs x h => by
  obtain ⟨n, rfl, _, hw⟩ := DataW.trod_int ht h
  simp only [Lit.wf, Bool.and_eq_true, decide_eq_true_eq] at hw
  have h0 : IntKind.i64.min = -9223372036854775808 := rfl
  have h1 : IntKind.i64.max = 9223372036854775807 := rfl
  exact ⟨n, rfl, by omega⟩
theorem opens_string {t : TypeId} (ht : P.underlying t = some .string) : Opens enc P W t KS := fun fuel cs x h => by
  obtain ⟨s, rfl, _, hw⟩ := DataW.trod_string ht h
  exact ⟨s, rfl, by simpa [maxLen] using hw⟩
theorem opens_slice {t e : TypeId} {α : Type} {K : Kd α} (ht : P.underlying t = some (.slice e)) (he : P.cellsOf e = K.sz) (h0 : 0 < K.sz) (hK : Opens enc P W e K) : Opens enc P W t (Kd.slice K) := fun fuel cs x h => by
  rcases Go.Deep.open_slice ht h with ⟨rfl, _⟩ | ⟨a, len, cap, m, n, D, Pl, rfl, _, hl, hm, hmm, _, hq⟩
  · exact ⟨[], none, 0, 0, rfl, Nat.le_refl _, Sl.nil K _ _ _ _⟩
  · simp only [if_true] at hmm
    subst hmm
    have key : ∀ i, i < len → ∃ y cs', K.R 0 W.heap.size W y cs' ∧ W.cells? 0 (a.add (i * K.sz)) K.sz = some cs' := fun i hi => by
      obtain ⟨cs', h1, h2⟩ := hq i Zz
      obtain ⟨y, hy⟩ := hK _ _ _ h2
      rw [he] at h1
      exact ⟨y, cs', hy, h1⟩
    have hlist : ∀ q, q ≤ len → ∃ ys : List α, ys.length = q ∧ ∀ j y, ys[j]? = some y → ∃ cs', K.R 0 W.heap.size W y cs' ∧ W.cells? 0 (a.add (j * K.sz)) K.sz = some cs' := by
      intro q
      induction q with
      | zero => intro _; exact ⟨[], rfl, fun j y hy => by simp at hy⟩
      | succ q ih =>
        intro hq'
        obtain ⟨ys, hy1, hy2⟩ := ih Zz
        obtain ⟨y, cs', h1, h2⟩ := key q Zz
        refine ⟨ys ++ [y], by simp [hy1], fun j z hz => ?_⟩
        rcases Nat.lt_or_ge j ys.length with hj | hj
        · rw [List.getElem?_append_left hj] at hz
          exact hy2 j z hz
        · rw [List.getElem?_append_right hj] at hz
          have : j - ys.length = 0 := by
            have := (List.getElem?_eq_some_iff.1 hz).1
            simpa using this
          rw [this] at hz
          simp at hz
          subst hz
          have : j = q := by omega
          subst this
          exact ⟨cs', h1, h2⟩
    obtain ⟨ys, hy1, hy2⟩ := hlist len (Nat.le_refl _)
    have hb : len ≤ 9223372036854775807 := by simp only [maxLen] at hm; omega
    refine ⟨ys, some a, len, _, rfl, hl, hy1, hb, fun hn => ⟨a, rfl, Nat.zero_le _, ?_, fun j y hy => ?_⟩⟩
    · obtain ⟨_, cs', _, h2⟩ := key 0 hn
      have := World.cells?_block h2 h0
      rwa [add_block] at this
    · obtain ⟨cs', h1, h2⟩ := hy2 j y hy
      refine ⟨cs', h1, fun i u hu => ?_⟩
      obtain ⟨_, h3, h4⟩ := World.cells?_some h2
      have := h4 i (by rw [← h3]; exact (List.getElem?_eq_some_iff.1 hu).1)
      rw [add_add] at this
      rw [this, hu]
theorem opens_struct2 {t : TypeId} {f0 f1 : Field} {α β : Type} {K : Kd α} {L : Kd β} (ht : P.underlying t = some (.struct #[f0, f1])) (hc : P.cellsOf t = K.sz + L.sz) (h0 : f0.offset = 0 ∧ P.cellsOf f0.type = K.sz) (h1 : f1.offset = K.sz ∧ P.cellsOf f1.type = L.sz)
    (hK : Opens enc P W f0.type K) (hL : Opens enc P W f1.type L) : Opens enc P W t (Kd.pair K L) := fun fuel cs x h => by
  obtain ⟨y0, y1, n, _, hl, h2, h3⟩ := Go.ChangeShapes.trod_struct2 ht h
  obtain ⟨a, ha⟩ := hK _ _ _ h2
  obtain ⟨b, hb⟩ := hL _ _ _ h3
  refine ⟨(a, b), _, _, ?_, ha, hb⟩
  rw [h0.1, h0.2, h1.1, h1.2, List.drop_zero]
  rw [hc] at hl
  rw [List.take_of_length_le (l := cs.drop K.sz) (by simp; omega), List.take_append_drop]
theorem opens_struct3 {t : TypeId} {f0 f1 f2 : Field} {α β γ : Type} {K : Kd α} {L : Kd β} {M : Kd γ} (ht : P.underlying t = some (.struct #[f0, f1, f2])) (hc : P.cellsOf t = K.sz + (L.sz + M.sz)) (h0 : f0.offset = 0 ∧ P.cellsOf f0.type = K.sz) (h1 : f1.offset = K.sz ∧ P.cellsOf f1.type = L.sz) (h2 : f2.offset = K.sz + L.sz ∧ P.cellsOf f2.type = M.sz)
    (hK : Opens enc P W f0.type K) (hL : Opens enc P W f1.type L) (hM : Opens enc P W f2.type M) : Opens enc P W t (Kd.pair K (Kd.pair L M)) := fun fuel cs x h => by
  obtain ⟨y0, y1, y2, n, _, hl, h3, h4, h5⟩ := Go.Deep.trod_struct3 ht h
  obtain ⟨a, ha⟩ := hK _ _ _ h3
  obtain ⟨b, hb⟩ := hL _ _ _ h4
  obtain ⟨c, hcc⟩ := hM _ _ _ h5
  refine ⟨(a, b, c), _, _, ?_, ha, _, _, rfl, hb, hcc⟩
  rw [h0.1, h0.2, h1.1, h1.2, h2.1, h2.2, List.drop_zero]
  rw [hc] at hl
  rw [List.take_of_length_le (l := cs.drop (K.sz + L.sz)) (by simp; omega), ← List.drop_drop, List.take_append_drop, List.take_append_drop]
end
end Go.Proofs.YtbljooblpfdbiaaGreatDoor.X
