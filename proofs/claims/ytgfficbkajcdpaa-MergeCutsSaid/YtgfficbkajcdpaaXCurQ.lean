/- Cursors that leave something behind: Q holds once they have nothing more to tell. -/
import Derived.Test.YtgfficbkajcdpaaXCur
namespace Go.Proofs.Ytgfficbkajcdpaa.X
open Go
set_option linter.unusedVariables false
set_option linter.unusedSimpArgs false

section
variable {α : Type} (P : Program) (ev : α → Value) (z : α)
def CurQ (nx : FuncId) (B : Nat) (T : Nat → Prop) (p : Value) (xs : List α) (w : World) (Q : World → Prop) : Prop :=
  ∃ I : List α → World → Prop, I xs w ∧ (∀ xs w w', I xs w → Agree T B w w' → I xs w') ∧ (∀ xs w, I xs w → Ret P nx #[p] w fun r w' => r = hdV ev z xs ∧ Ext T w w' ∧ I xs.tail w') ∧ ∀ w, I [] w → Q w
def StpQ (B : Nat) (T : Nat → Prop) (fv : Value) (xs : List α) (w : World) (Q : World → Prop) : Prop :=
  ∃ I : List α → World → Prop, I xs w ∧ (∀ xs w w', I xs w → Agree T B w w' → I xs w') ∧ (∀ xs w, I xs w → YC P fv [] w fun r w' => r = hdV ev z xs ∧ Ext T w w' ∧ (xs ≠ [] → I xs.tail w') ∧ (xs = [] → Q w')) ∧ ∀ w, I [] w → Q w
end
section
variable {α : Type} {P : Program} {ev : α → Value} {z : α} {nx B : Nat} {T : Nat → Prop} {p fv : Value} {xs : List α} {w w' : World} {Q : World → Prop}
theorem CurQ.agree (h : CurQ P ev z nx B T p xs w Q) (ha : Agree T B w w') : CurQ P ev z nx B T p xs w' Q := by
  obtain ⟨I, h1, h2, h3, h4⟩ := h
  exact ⟨I, h2 _ _ _ h1 ha, h2, h3, h4⟩
theorem CurQ.next (h : CurQ P ev z nx B T p xs w Q) : Ret P nx #[p] w fun r w' => r = hdV ev z xs ∧ Ext T w w' ∧ CurQ P ev z nx B T p xs.tail w' Q := by
  obtain ⟨I, h1, h2, h3, h4⟩ := h
  exact (h3 _ _ h1).mono fun r w' ⟨a, b, c⟩ => ⟨a, b, I, c, h2, h3, h4⟩
theorem CurQ.nil (h : CurQ P ev z nx B T p [] w Q) : Q w := let ⟨_, h1, _, _, h4⟩ := h; h4 _ h1
theorem CurQ.ext (h : CurQ P ev z nx B T p xs w Q) {U : Nat → Prop} (x : Ext U w w') (hU : ∀ k, k < w.heap.size → U k → B ≤ k ∧ ¬ T k) : CurQ P ev z nx B T p xs w' Q := h.agree (Agree.of_ext x hU)
theorem CurQ.keep (h : CurQ P ev z nx B T p xs w Q) (x : Keep w w') : CurQ P ev z nx B T p xs w' Q := h.agree (Agree.of_keep x)
theorem CurQ.wide (h : CurQ P ev z nx B T p xs w Q) {U : Nat → Prop} (hU : ∀ k, T k → U k) : CurQ P ev z nx B U p xs w Q := by
  obtain ⟨I, h1, h2, h3, h4⟩ := h
  exact ⟨I, h1, fun xs w w' hi ha => h2 xs w w' hi (ha.sub hU), fun xs w hi => (h3 xs w hi).mono fun r w' ⟨a, b, c⟩ => ⟨a, b.mono fun k _ hk => hU k hk, c⟩, h4⟩
theorem StpQ.agree (h : StpQ P ev z B T fv xs w Q) (ha : Agree T B w w') : StpQ P ev z B T fv xs w' Q := by
  obtain ⟨I, h1, h2, h3, h4⟩ := h
  exact ⟨I, h2 _ _ _ h1 ha, h2, h3, h4⟩
theorem StpQ.call (h : StpQ P ev z B T fv xs w Q) : YC P fv [] w fun r w' => r = hdV ev z xs ∧ Ext T w w' ∧ (xs ≠ [] → StpQ P ev z B T fv xs.tail w' Q) ∧ (xs = [] → Q w') := by
  obtain ⟨I, h1, h2, h3, h4⟩ := h
  exact (h3 _ _ h1).mono fun r w' ⟨a, b, c, d⟩ => ⟨a, b, fun hn => ⟨I, c hn, h2, h3, h4⟩, d⟩
theorem StpQ.nil (h : StpQ P ev z B T fv [] w Q) : Q w := let ⟨_, h1, _, _, h4⟩ := h; h4 _ h1
theorem CurQ.made {bm : Nat} {e : TypeId} (h : StpQ P ev z B T fv xs w Q) (hQ : ∀ w w', Q w → Agree T B w w' → Q w') (hb : Blk w bm [fv, .bool false] e) (hBm : B ≤ bm) (hT : ¬ T bm) (hTb : ∀ k, T k → k < w.heap.size)
    (hover : ∀ w, Blk w bm [fv, .bool true] e → Ret P nx #[.pointer (some ⟨bm, 0, none⟩)] w fun r w' => r = hdV ev z [] ∧ Keep w w')
    (hstep : ∀ (xs : List α) (w : World) (R : World → Prop), (∀ k, T k → k < w.heap.size) → Blk w bm [fv, .bool false] e → (∀ wa, Keep w wa → YC P fv [] wa fun r wc => r = hdV ev z xs ∧ Ext T wa wc ∧ R wc) →
      Ret P nx #[.pointer (some ⟨bm, 0, none⟩)] w fun r w' => r = hdV ev z xs ∧ (∃ wc, R wc ∧ Ext T w wc ∧ Ext (fun k => k = bm ∨ w.heap.size ≤ k) wc w') ∧ Blk w' bm [fv, .bool xs.isEmpty] e) :
    CurQ P ev z nx B (fun k => T k ∨ k = bm) (.pointer (some ⟨bm, 0, none⟩)) xs w Q := by
  refine ⟨fun xs w => ((StpQ P ev z B T fv xs w Q ∧ Blk w bm [fv, .bool false] e) ∨ (xs = [] ∧ Q w ∧ Blk w bm [fv, .bool true] e)) ∧ ∀ k, T k → k < w.heap.size, ⟨.inl ⟨h, hb⟩, hTb⟩, ?_, ?_, ?_⟩
  · rintro xs w w' ⟨hi, hTb⟩ ha
    have ha1 := ha.sub (U := T) fun k hk => .inl hk
    have hz := ha.size
    refine ⟨?_, fun k hk => by have := hTb k hk; omega⟩
    rcases hi with ⟨h1, h2⟩ | ⟨h1, h2, h3⟩
    · exact .inl ⟨h1.agree ha1, ha.blk h2 (.inr rfl)⟩
    · exact .inr ⟨h1, hQ _ _ h2 ha1, ha.blk h3 (.inr rfl)⟩
  · rintro xs w ⟨hi, hTb⟩
    rcases hi with ⟨h1, h2⟩ | ⟨rfl, h1, h2⟩
    · have hlt := h2.lt
      refine (hstep xs w (fun wc => (xs ≠ [] → StpQ P ev z B T fv xs.tail wc Q) ∧ (xs = [] → Q wc)) hTb h2 fun wa ka => (h1.agree (Agree.of_keep ka)).call).mono ?_
      rintro r w' ⟨rfl, ⟨wc, ⟨hR, hR2⟩, hx1, hx2⟩, hB'⟩
      have hz := Nat.le_trans hx1.size hx2.size
      have hag : Agree T B wc w' := Agree.of_ext hx2 fun k _ hk => hk.elim (fun e => by rw [e]; exact ⟨hBm, hT⟩) (fun e => ⟨by omega, fun ht => by have := hTb k ht; omega⟩)
      refine ⟨rfl, Ext.trans hx1 hx2 (fun _ _ x => .inl x) (fun k hk x => x.elim .inr fun x => by omega), ?_, fun k hk => by have := hTb k hk; omega⟩
      cases xs with
      | nil => exact .inr ⟨rfl, hQ _ _ (hR2 rfl) hag, hB'⟩
      | cons x xs => exact .inl ⟨(hR (by simp)).agree hag, hB'⟩
    · refine (hover w h2).mono ?_
      rintro r w' ⟨rfl, hk⟩
      have hz := hk.size
      exact ⟨rfl, hk.mono fun _ _ h => h.elim, .inr ⟨rfl, hQ _ _ h1 (Agree.of_keep hk), h2.keep hk⟩, fun k ht => by have := hTb k ht; omega⟩
  · rintro w ⟨⟨h1, _⟩ | ⟨_, h1, _⟩, _⟩
    · exact h1.nil
    · exact h1
end
end Go.Proofs.Ytgfficbkajcdpaa.X
