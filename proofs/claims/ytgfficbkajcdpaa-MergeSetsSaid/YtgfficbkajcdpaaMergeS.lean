/- Sets: the plain law. -/
import Derived.Test.YtgfficbkajcdpaaMergeR
namespace Go.Proofs.Ytgfficbkajcdpaa
open Go Go.Proofs.Ytgfficbkajcdpaa.X
set_option linter.unusedVariables false
set_option linter.unusedSimpArgs false

def Rise (l : List TH) : Prop := l.Pairwise fun x y => x.1 ≤ y.1
def Strict (l : List TH) : Prop := l.Pairwise fun x y => x.1 < y.1
theorem pk_least {L : Nat → List TH} : ∀ {n i : Nat} {x : TH}, pk L n = some (i, x) → ∀ j, j < n → ∀ y l, L j = y :: l → x.1 ≤ y.1
  | 0, i, x, h, j, hj, _, _, _ => by omega
  | n + 1, i, x, h, j, hj, y, l, hy => by
    rw [pk] at h
    split at h
    · rename_i hl
      have hjn : j ≠ n := fun e => by rw [e, hl] at hy; cases hy
      exact pk_least h j (by omega) y l hy
    · rename_i y' l' hl hp
      injection h with h; injection h with h1 h2
      have : j = n ∨ j < n := by omega
      rcases this with rfl | hlt
      · rw [hl] at hy; cases hy; rw [h2]; exact Int.le_refl _
      · have := pk_none hp j hlt; rw [this] at hy; cases hy
    · rename_i y' l' i' x' hl hp
      have hlow : j < n → x'.1 ≤ y.1 := fun hlt => pk_least hp j hlt y l hy
      have hjn : j = n ∨ j < n := by omega
      split at h
      · rename_i hlt
        injection h with h; injection h with h1 h2
        subst h2
        rcases hjn with rfl | hj2
        · rw [hl] at hy; cases hy; exact Int.le_refl _
        · have := hlow hj2; omega
      · rename_i hge
        injection h with h; injection h with h1 h2
        subst h2
        rcases hjn with rfl | hj2
        · rw [hl] at hy; cases hy; omega
        · exact hlow hj2
theorem mg_mem : ∀ (t n : Nat) (L : Nat → List TH), totL L n = t → ∀ y, y ∈ mgC n L → ∃ j, j < n ∧ y ∈ L j
  | 0, n, L, h, y, hy => by rw [mgC, h] at hy; cases hy
  | t + 1, n, L, h, y, hy => by
    cases hp : pk L n with
    | none => rw [mgC_none hp] at hy; cases hy
    | some q =>
      obtain ⟨i, x⟩ := q
      obtain ⟨h1, l, h2⟩ := pk_some hp
      have ht := totL_upd h2 n
      rw [if_pos h1] at ht
      rw [mgC_some hp] at hy
      rcases List.mem_cons.1 hy with rfl | hy
      · exact ⟨i, h1, by rw [h2]; exact List.mem_cons_self ..⟩
      · obtain ⟨j, hj, hm⟩ := mg_mem t n (updL L i) (by omega) y hy
        refine ⟨j, hj, ?_⟩
        by_cases e : j = i
        · rw [updL, if_pos e] at hm; exact List.mem_of_mem_tail hm
        · rw [updL, if_neg e] at hm; exact hm
theorem mg_rise : ∀ (t n : Nat) (L : Nat → List TH), totL L n = t → (∀ j, j < n → Rise (L j)) → Rise (mgC n L)
  | 0, n, L, h, _ => by rw [mgC, h]; exact List.Pairwise.nil
  | t + 1, n, L, h, hs => by
    cases hp : pk L n with
    | none => rw [mgC_none hp]; exact List.Pairwise.nil
    | some q =>
      obtain ⟨i, x⟩ := q
      obtain ⟨h1, l, h2⟩ := pk_some hp
      have ht := totL_upd h2 n
      rw [if_pos h1] at ht
      have hs2 : ∀ j, j < n → Rise (updL L i j) := fun j hj => by
        by_cases e : j = i
        · rw [updL, if_pos e, e, h2]; have := hs i h1; rw [h2] at this; exact (List.pairwise_cons.1 this).2
        · rw [updL, if_neg e]; exact hs j hj
      rw [mgC_some hp]
      refine List.pairwise_cons.2 ⟨fun y hy => ?_, mg_rise t n _ (by omega) hs2⟩
      obtain ⟨j, hj, hm⟩ := mg_mem t n _ (by omega) y hy
      have hm' : y ∈ L j := by
        by_cases e : j = i
        · rw [updL, if_pos e] at hm; exact List.mem_of_mem_tail hm
        · rw [updL, if_neg e] at hm; exact hm
      cases hL : L j with
      | nil => rw [hL] at hm'; cases hm'
      | cons z zs =>
        have hz := pk_least hp j hj z zs hL
        rw [hL] at hm'
        rcases List.mem_cons.1 hm' with rfl | hm'
        · exact hz
        · have := hs j hj; rw [hL] at this
          have := (List.pairwise_cons.1 this).1 y hm'
          omega
theorem once_mem : ∀ (l : List TH) (p : Option TH) (y : TH), y ∈ onceL p l → y ∈ l
  | [], p, y, h => by cases p <;> cases h
  | x :: l, none, y, h => by
    rcases List.mem_cons.1 h with rfl | h
    · exact List.mem_cons_self ..
    · exact List.mem_cons_of_mem _ (once_mem l _ y h)
  | x :: l, some p, y, h => by
    rw [onceL] at h
    split at h
    · exact List.mem_cons_of_mem _ (once_mem l _ y h)
    · rcases List.mem_cons.1 h with rfl | h
      · exact List.mem_cons_self ..
      · exact List.mem_cons_of_mem _ (once_mem l _ y h)
theorem once_strict : ∀ (l : List TH) (p : Option TH), Rise l → (∀ q, p = some q → ∀ y ∈ l, q.1 ≤ y.1) → Strict (onceL p l) ∧ ∀ q, p = some q → ∀ y ∈ onceL p l, q.1 < y.1
  | [], p, _, _ => by cases p <;> exact ⟨List.Pairwise.nil, fun q _ y hy => by cases hy⟩
  | x :: l, none, hr, _ => by
    obtain ⟨h1, h2⟩ := List.pairwise_cons.1 hr
    obtain ⟨g1, g2⟩ := once_strict l (some x) h2 (fun q hq y hy => by cases hq; exact h1 y hy)
    exact ⟨List.pairwise_cons.2 ⟨fun y hy => g2 x rfl y hy, g1⟩, fun q hq => by cases hq⟩
  | x :: l, some p, hr, hp => by
    obtain ⟨h1, h2⟩ := List.pairwise_cons.1 hr
    have hpx := hp p rfl x (List.mem_cons_self ..)
    rw [onceL]
    split
    · rename_i e
      exact once_strict l (some p) h2 (fun q hq y hy => hp q hq y (List.mem_cons_of_mem _ hy))
    · rename_i e
      obtain ⟨g1, g2⟩ := once_strict l (some x) h2 (fun q hq y hy => by cases hq; exact h1 y hy)
      refine ⟨List.pairwise_cons.2 ⟨fun y hy => g2 x rfl y hy, g1⟩, fun q hq y hy => ?_⟩
      cases hq
      rcases List.mem_cons.1 hy with rfl | hy
      · omega
      · have := g2 x rfl y hy; omega
def anyT (x : TH) (ys : List TH) : Bool := ys.any fun y => decide (x.1 = y.1)
theorem anyT_skip {x z : TH} (h : z.1 < x.1 ∨ z.1 = x.1) : ∀ (ys : List TH), Strict ys → anyT x (skipT z ys) = anyT x ys
  | [], _ => rfl
  | y :: ys, hs => by
    obtain ⟨h1, h2⟩ := List.pairwise_cons.1 hs
    by_cases hy : y.1 < z.1
    · rw [(skip_go hy).1, anyT_skip h ys h2]
      simp [anyT, show ¬ x.1 = y.1 by omega]
    · rw [(skip_stop hy).1]
theorem hasT_any {x : TH} : ∀ (ys : List TH), Strict ys → hasT x ys = anyT x ys
  | [], _ => rfl
  | y :: ys, hs => by
    obtain ⟨h1, h2⟩ := List.pairwise_cons.1 hs
    by_cases hy : y.1 < x.1
    · rw [(skip_go hy).2, hasT_any ys h2]
      simp [anyT, show ¬ x.1 = y.1 by omega]
    · rw [(skip_stop hy).2]
      by_cases e : y.1 = x.1
      · simp [anyT, e]
      · have : (ys.any fun y => decide (x.1 = y.1)) = false := by
          rw [List.any_eq_false]
          intro z hz
          have := h1 z hz
          simp; omega
        simp [anyT, e, show ¬ x.1 = y.1 from fun h => e h.symm, this]
theorem skip_strict (z : TH) (ys : List TH) (h : Strict ys) : Strict (skipT z ys) := h.sublist (List.dropWhile_sublist _)
theorem held_filter (t : Bool) : ∀ (xs ys : List TH), Strict xs → Strict ys → heldL t xs ys = xs.filter fun x => anyT x ys == t
  | [], ys, _, _ => rfl
  | x :: xs, ys, hx, hy => by
    obtain ⟨h1, h2⟩ := List.pairwise_cons.1 hx
    have ih := held_filter t xs (skipT x ys) h2 (skip_strict x ys hy)
    have e : (xs.filter fun z => anyT z (skipT x ys) == t) = xs.filter fun z => anyT z ys == t := by
      apply List.filter_congr
      intro z hz
      rw [anyT_skip (.inl (h1 z hz)) ys hy]
    rw [heldL, hasT_any ys hy, ih, e, List.filter_cons]
    cases hq : anyT x ys <;> cases t <;> simp
theorem filter_at {l : List TH} {f : TH → Bool} {i : Nat} {x : TH} (hx : l[i]? = some x) (hf : f x = true) : (l.filter f)[((l.take i).filter f).length]? = some x ∧ ((l.take (i + 1)).filter f).length = ((l.take i).filter f).length + 1 := by
  have e : l = l.take i ++ x :: l.drop (i + 1) := by rw [← drop_at hx, List.take_append_drop]
  refine ⟨?_, by rw [take_at hx, List.filter_append]; simp [hf]⟩
  have : l.filter f = (l.take i).filter f ++ x :: (l.drop (i + 1)).filter f := by
    conv => lhs; rw [e]
    rw [List.filter_append, List.filter_cons, if_pos hf]
  rw [this, List.getElem?_append_right (Nat.le_refl _)]
  simp
theorem filter_no {l : List TH} {f : TH → Bool} {i : Nat} {x : TH} (hx : l[i]? = some x) (hf : f x = false) : ((l.take (i + 1)).filter f).length = ((l.take i).filter f).length := by
  rw [take_at hx, List.filter_append]; simp [hf]
/-- One by one, then one of each kind, rising. -/
def setL (l : List TH) : List TH := onceL none (mgC 1 (LL [mgC (l.take 30).length (LL ((l.take 30).map fun x => [x]))]))
theorem LL_single (l : List TH) (j : Nat) : Rise (LL (l.map fun x => [x]) j) := by
  rw [LL, List.getD_eq_getElem?_getD, List.getElem?_map]
  cases l[j]? with
  | none => exact List.Pairwise.nil
  | some x => exact List.pairwise_singleton _ _
theorem set_strict (l : List TH) : Strict (setL l) := by
  refine (once_strict _ none (mg_rise _ 1 _ rfl fun j hj => ?_) (fun q hq => by cases hq)).1
  obtain rfl : j = 0 := by omega
  exact mg_rise _ _ _ rfl fun j _ => LL_single _ j
end Go.Proofs.Ytgfficbkajcdpaa
