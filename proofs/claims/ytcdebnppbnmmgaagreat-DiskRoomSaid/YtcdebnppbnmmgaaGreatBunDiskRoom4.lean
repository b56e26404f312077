/- Texts that the proof of DiskRoom stands on, part 4. -/
import Derived.Deep.Slices
import Derived.Deep.Strs
import Derived.ProofKit
import Derived.OpenShut
import Derived.ShutString
import Derived.ChangeOld
import Derived.SizedLaws
import Derived.KernelRfl
import Derived.Test.YtcdebnppbnmmgaaGreatBunDiskRoom3

namespace Go.Proofs.YtcdebnppbnmmgaaGreat.X
open Go
set_option linter.unusedSimpArgs false

/-- Type t is read as data of the kind K. -/
def Opens {H : Type} (enc : TypeId × Value → H) (P : Program) (W : World) {α : Type} (t : TypeId) (K : Kd α) : Prop :=
  ∀ fuel cs x, DataW.trod enc P W 0 (fun _ => true) true fuel t cs = some x → ∃ y, K.R 0 W.heap.size W y cs
def KS : Kd ByteArray := Kd.plain 1 (fun s => [.string s]) (fun s => s.size ≤ 9223372036854775807) (fun _ => rfl) (fun _ u hu => by simp at hu; subst hu; rfl)
def KBo : Kd Bool := Kd.plain 1 (fun s => [.bool s]) (fun _ => True) (fun _ => rfl) (fun _ u hu => by simp at hu; subst hu; rfl)
theorem KS_flat : Flat KS := fun h => h
theorem KBo_flat : Flat KBo := fun h => h
section
variable {H : Type} {enc : TypeId × Value → H} {P : Program} {W : World}
theorem opens_u8 {t : TypeId} (ht : P.underlying t = some (.int .u8)) : Opens enc P W t KB := fun fuel cs x h => by
  obtain ⟨n, rfl, _, hw⟩ := DataW.trod_int ht h
  simp only [Lit.wf, Bool.and_eq_true, decide_eq_true_eq] at hw
  have h0 : IntKind.u8.min = 0 := rfl
  have h1 : IntKind.u8.max = 255 := rfl
  refine ⟨UInt8.ofNat n.toNat, ?_, trivial⟩
  have : ((UInt8.ofNat n.toNat).toNat : Int) = n := by
    rw [UInt8.toNat_ofNat']
    omega
  show [Value.int IntKind.u8 n] = [Value.int IntKind.u8 ((UInt8.ofNat n.toNat).toNat : Int)]
  rw [this]
theorem opens_i64 {t : TypeId} (ht : P.underlying t = some (.int .i64)) : Opens enc P W t KI := fun fuel cs x h => by
  obtain ⟨n, rfl, _, hw⟩ := DataW.trod_int ht h
  simp only [Lit.wf, Bool.and_eq_true, decide_eq_true_eq] at hw
  have h0 : IntKind.i64.min = -9223372036854775808 := rfl
  have h1 : IntKind.i64.max = 9223372036854775807 := rfl
  exact ⟨n, rfl, by omega⟩
theorem opens_string {t : TypeId} (ht : P.underlying t = some .string) : Opens enc P W t KS := fun fuel cs x h => by
  obtain ⟨s, rfl, _, hw⟩ := DataW.trod_string ht h
  exact ⟨s, rfl, by simpa [maxLen] using hw⟩
theorem opens_bool {t : TypeId} (ht : P.underlying t = some .bool) : Opens enc P W t KBo := fun fuel cs x h => by
  obtain ⟨s, rfl, _⟩ := DataW.trod_bool ht h
  exact ⟨s, rfl, trivial⟩
theorem opens_slice {t e : TypeId} {α : Type} {K : Kd α} (ht : P.underlying t = some (.slice e)) (he : P.cellsOf e = K.sz) (h0 : 0 < K.sz) (hK : Opens enc P W e K) : Opens enc P W t (Kd.slice K) := fun fuel cs x h => by
  rcases Go.Deep.open_slice ht h with ⟨rfl, _⟩ | ⟨a, len, cap, m, n, D, Pl, rfl, _, hl, hm, hmm, _, hq⟩
  · exact ⟨[], none, 0, 0, rfl, Nat.le_refl _, Sl.nil K _ _ _ _⟩
  · simp only [if_true] at hmm
    subst hmm
    have key : ∀ i, i < len → ∃ y cs', K.R 0 W.heap.size W y cs' ∧ W.cells? 0 (a.add (i * K.sz)) K.sz = some cs' := fun i hi => by
      obtain ⟨cs', h1, h2⟩ := hq i (by omega)
      obtain ⟨y, hy⟩ := hK _ _ _ h2
      rw [he] at h1
      exact ⟨y, cs', hy, h1⟩
    have hlist : ∀ q, q ≤ len → ∃ ys : List α, ys.length = q ∧ ∀ j y, ys[j]? = some y → ∃ cs', K.R 0 W.heap.size W y cs' ∧ W.cells? 0 (a.add (j * K.sz)) K.sz = some cs' := by
      intro q
      induction q with
      | zero => intro _; exact ⟨[], rfl, fun j y hy => by simp at hy⟩
      | succ q ih =>
        intro hq'
        obtain ⟨ys, hy1, hy2⟩ := ih (by omega)
        obtain ⟨y, cs', h1, h2⟩ := key q (by omega)
        refine ⟨ys ++ [y], by simp [hy1], fun j z hz => ?_⟩
        rcases Nat.lt_or_ge j ys.length with hj | hj
        · rw [List.getElem?_append_left hj] at hz
          exact hy2 j z hz
        · rw [List.getElem?_append_right hj] at hz
          have : j - ys.length = 0 := by
            have := (List.getElem?_eq_some_iff.1 hz).1
            simpa using this
          rw [this] at hz
          simp at hz
          subst hz
          have : j = q := by omega
          subst this
          exact ⟨cs', h1, h2⟩
    obtain ⟨ys, hy1, hy2⟩ := hlist len (Nat.le_refl _)
    have hb : len ≤ 9223372036854775807 := by simp only [maxLen] at hm; omega
    refine ⟨ys, some a, len, _, rfl, hl, hy1, hb, fun hn => ⟨a, rfl, Nat.zero_le _, ?_, fun j y hy => ?_⟩⟩
    · obtain ⟨_, cs', _, h2⟩ := key 0 hn
      have := World.cells?_block h2 h0
      rwa [add_block] at this
    · obtain ⟨cs', h1, h2⟩ := hy2 j y hy
      refine ⟨cs', h1, fun i u hu => ?_⟩
      obtain ⟨_, h3, h4⟩ := World.cells?_some h2
      have := h4 i (by rw [← h3]; exact (List.getElem?_eq_some_iff.1 hu).1)
      rw [add_add] at this
      rw [this, hu]
theorem opens_struct3 {t : TypeId} {f0 f1 f2 : Field} {α β γ : Type} {K : Kd α} {L : Kd β} {M : Kd γ} (ht : P.underlying t = some (.struct #[f0, f1, f2])) (hc : P.cellsOf t = K.sz + (L.sz + M.sz)) (h0 : f0.offset = 0 ∧ P.cellsOf f0.type = K.sz) (h1 : f1.offset = K.sz ∧ P.cellsOf f1.type = L.sz) (h2 : f2.offset = K.sz + L.sz ∧ P.cellsOf f2.type = M.sz)
    (hK : Opens enc P W f0.type K) (hL : Opens enc P W f1.type L) (hM : Opens enc P W f2.type M) : Opens enc P W t (Kd.pair K (Kd.pair L M)) := fun fuel cs x h => by
  obtain ⟨y0, y1, y2, n, _, hl, h3, h4, h5⟩ := Go.Deep.trod_struct3 ht h
  obtain ⟨a, ha⟩ := hK _ _ _ h3
  obtain ⟨b, hb⟩ := hL _ _ _ h4
  obtain ⟨c, hcc⟩ := hM _ _ _ h5
  refine ⟨(a, b, c), _, _, ?_, ha, _, _, rfl, hb, hcc⟩
  rw [h0.1, h0.2, h1.1, h1.2, h2.1, h2.2, List.drop_zero]
  rw [hc] at hl
  rw [List.take_of_length_le (l := cs.drop (K.sz + L.sz)) (by simp; omega), ← List.drop_drop, List.take_append_drop, List.take_append_drop]
end
end Go.Proofs.YtcdebnppbnmmgaaGreat.X

namespace Go.Proofs.YtcdebnppbnmmgaaGreat.X
open Go
set_option linter.unusedSimpArgs false
set_option linter.unusedVariables false
/-- Fields, the first at place o, are read as data of the kind K. -/
inductive OpensF {H : Type} (enc : TypeId × Value → H) (P : Program) (W : World) : Nat → List Field → (α : Type) → Kd α → Prop
  | one {o : Nat} {f : Field} {α : Type} {K : Kd α} (h1 : f.offset = o) (h2 : P.cellsOf f.type = K.sz) (h3 : Opens enc P W f.type K) : OpensF enc P W o [f] α K
  | cons {o : Nat} {f : Field} {fs : List Field} {α β : Type} {K : Kd α} {L : Kd β} (h1 : f.offset = o) (h2 : P.cellsOf f.type = K.sz) (h3 : Opens enc P W f.type K) (h4 : OpensF enc P W (o + K.sz) fs β L) : OpensF enc P W o (f :: fs) (α × β) (Kd.pair K L)
section
variable {H : Type} {enc : TypeId × Value → H} {P : Program} {W : World}
theorem opensF_at {cs : List Value} {xs : List (DataW H × List MemPlace)} {n : Nat} : ∀ {o : Nat} {fl : List Field} {α : Type} {K : Kd α}, OpensF enc P W o fl α K → ∀ i, (∀ j f, fl[j]? = some f → DataW.trod enc P W 0 (fun _ => true) true n f.type ((cs.drop f.offset).take (P.cellsOf f.type)) = xs[i + j]?) → i + fl.length ≤ xs.length → ∃ y, K.R 0 W.heap.size W y ((cs.drop o).take K.sz) := by
  intro o fl α K h
  induction h with
  | @one o f α K h1 h2 h3 =>
    intro i hx hl
    have q := hx 0 f rfl
    rw [List.getElem?_eq_getElem (by simp at hl; omega)] at q
    obtain ⟨y, hy⟩ := h3 _ _ _ q
    rw [h1, h2] at hy
    exact ⟨y, hy⟩
  | @cons o f fs α β K L h1 h2 h3 h4 ih =>
    intro i hx hl
    have q := hx 0 f rfl
    rw [List.getElem?_eq_getElem (by simp at hl; omega)] at q
    obtain ⟨y, hy⟩ := h3 _ _ _ q
    rw [h1, h2] at hy
    obtain ⟨z, hz⟩ := ih (i + 1) (fun j g hg => by rw [hx (j + 1) g (by simpa using hg)]; congr 1; omega) (by simp at hl; omega)
    refine ⟨(y, z), _, _, ?_, hy, hz⟩
    show List.take (K.sz + L.sz) _ = _
    rw [List.take_add, List.drop_drop]
theorem opens_struct {t : TypeId} {fs : Array Field} {α : Type} {K : Kd α} (ht : P.underlying t = some (.struct fs)) (hc : P.cellsOf t = K.sz) (hF : OpensF enc P W 0 fs.toList α K) : Opens enc P W t K := fun fuel cs x h => by
  obtain ⟨xs, n, _, _, hl, hlen, hf⟩ := DataW.trod_struct ht h
  obtain ⟨y, hy⟩ := opensF_at (xs := xs) (cs := cs) (n := n) hF 0 (fun j f hj => by rw [Nat.zero_add]; exact hf j f (by simpa using hj)) (by simp [hlen])
  rw [List.drop_zero, List.take_of_length_le (by rw [hl, hc]; exact Nat.le_refl _)] at hy
  exact ⟨y, hy⟩
end
end Go.Proofs.YtcdebnppbnmmgaaGreat.X

namespace Go.Proofs.YtcdebnppbnmmgaaGreat.X
open Go
set_option linter.unusedSimpArgs false
set_option linter.unusedVariables false
/-- Type t is read as data of the kind K; of data within the reach Q is true. -/
def OpensZ {H : Type} (enc : TypeId × Value → H) (P : Program) (W : World) {α : Type} (t : TypeId) (K : Kd α) (Q : α → Prop) : Prop :=
  ∀ fuel cs (x : DataW H × List MemPlace), DataW.trod enc P W 0 (fun _ => true) true fuel t cs = some x → (∀ n ∈ x.1.weights P t, n ≤ reachBytes) → ∃ y, K.R 0 W.heap.size W y cs ∧ Q y
section
variable {H : Type} {enc : TypeId × Value → H} {P : Program} {W : World}
theorem OpensZ.mono {t : TypeId} {α : Type} {K : Kd α} {Q Q' : α → Prop} (h : OpensZ enc P W t K Q) (hq : ∀ y, Q y → Q' y) : OpensZ enc P W t K Q' := fun fuel cs x hx hz => let ⟨y, h1, h2⟩ := h fuel cs x hx hz; ⟨y, h1, hq y h2⟩
end
end Go.Proofs.YtcdebnppbnmmgaaGreat.X
