/- Heads: their states, and the merge of lists. -/
import Derived.Test.YtgfficbkajcdpaaMergeD
namespace Go.Proofs.Ytgfficbkajcdpaa
open Go Go.Proofs.Ytgfficbkajcdpaa.X
set_option linter.unusedVariables false
set_option linter.unusedSimpArgs false

abbrev NX : FuncId := 98
abbrev hdL (c : Value) (x : TH) (tk ov : Bool) : List Value := [c, .int .i8 x.1, .int .i64 x.2, .bool tk, .bool ov]
/-- A head that has ys before it, asked already: x is the first. -/
def HdT (B : Nat) (T : Nat → Prop) (hb : Nat) (ys : List TH) (x : TH) (w : World) : Prop :=
  ∃ c, (∃ ys', ys = x :: ys' ∧ Blk w hb (hdL c x true false) 112 ∧ CV B T c ys' w) ∨ (ys = [] ∧ Blk w hb (hdL c x true true) 112 ∧ c.oneCell' = true)
/-- A head that has ys before it. -/
def Hd (B : Nat) (T : Nat → Prop) (hb : Nat) (ys : List TH) (w : World) : Prop :=
  (∃ c x, Blk w hb (hdL c x false false) 112 ∧ CV B T c ys w) ∨ ∃ x, HdT B T hb ys x w
section
variable {B : Nat} {T : Nat → Prop} {hb : Nat} {ys : List TH} {x : TH} {w w' : World}
theorem HdT.ext {U : Nat → Prop} (h : HdT B T hb ys x w) (e : Ext U w w') (hU : ∀ k, k < w.heap.size → U k → B ≤ k ∧ ¬ T k ∧ k ≠ hb) : HdT B T hb ys x w' := by
  obtain ⟨c, ⟨ys', h1, h2, h3⟩ | ⟨h1, h2, h3⟩⟩ := h
  · exact ⟨c, .inl ⟨ys', h1, h2.ext e (fun h => (hU _ h2.lt h).2.2 rfl), h3.agree (Agree.of_ext e fun k hk hu => ⟨(hU k hk hu).1, (hU k hk hu).2.1⟩)⟩⟩
  · exact ⟨c, .inr ⟨h1, h2.ext e (fun h => (hU _ h2.lt h).2.2 rfl), h3⟩⟩
theorem Hd.ext {U : Nat → Prop} (h : Hd B T hb ys w) (e : Ext U w w') (hU : ∀ k, k < w.heap.size → U k → B ≤ k ∧ ¬ T k ∧ k ≠ hb) : Hd B T hb ys w' := by
  rcases h with ⟨c, x, h1, h2⟩ | ⟨x, h⟩
  · exact .inl ⟨c, x, h1.ext e (fun h => (hU _ h1.lt h).2.2 rfl), h2.agree (Agree.of_ext e fun k hk hu => ⟨(hU k hk hu).1, (hU k hk hu).2.1⟩)⟩
  · exact .inr ⟨x, h.ext e hU⟩
theorem HdT.head {y : TH} {l : List TH} (h : HdT B T hb (y :: l) x w) : x = y := by
  obtain ⟨c, ⟨ys', h1, _⟩ | ⟨h1, _⟩⟩ := h
  · injection h1 with h1; exact h1.symm
  · cases h1
theorem look_c (w : World) (h : Hd B T hb ys w) (hBs : B ≤ w.heap.size) (hBh : B ≤ hb) (hTh : ¬ T hb) (hTb : ∀ k, T k → k < w.heap.size) :
    Ret Try.prog 48 #[.pointer (some ⟨hb, 0, none⟩)] w fun r w' => ∃ x, r = .tuple #[evT x, .bool (!ys.isEmpty)] ∧ HdT B T hb ys x w' ∧ Ext (fun k => T k ∨ k = hb) w w' := by
  rcases h with ⟨c, x, h1, ⟨rfl, rfl⟩ | ⟨p, rfl, h2⟩⟩ | ⟨x, c, ⟨ys', rfl, h1, h2⟩ | ⟨rfl, h1, h2⟩⟩
  · refine (lookn_c hb x w h1).mono fun r w' ⟨e, b, k⟩ => ⟨x, e, ⟨_, .inr ⟨rfl, b, rfl⟩⟩, k.mono fun _ _ h => .inr h⟩
  · refine (lookc_c hb x w h1 h2 hBs hBh hTh hTb).mono fun r w' ⟨e, b, k, g⟩ => ?_
    cases ys with
    | nil => exact ⟨_, e, ⟨_, .inr ⟨rfl, b, rfl⟩⟩, g⟩
    | cons y ys => exact ⟨_, e, ⟨_, .inl ⟨ys, rfl, b, .inr ⟨p, rfl, k⟩⟩⟩, g⟩
  · exact (lookt_c hb c x w h1).mono fun r w' ⟨e, k⟩ => ⟨x, e, ⟨c, .inl ⟨ys', rfl, h1.keep k, h2.agree (Agree.of_keep k)⟩⟩, k.mono fun _ _ h => h.elim⟩
  · exact (looko_c hb c x w h1).mono fun r w' ⟨e, k⟩ => ⟨x, e, ⟨c, .inr ⟨rfl, h1.keep k, h2⟩⟩, k.mono fun _ _ h => h.elim⟩
theorem pass_c {y : TH} (w : World) (h : HdT B T hb (y :: ys) x w) (hBh : B ≤ hb) (hTh : ¬ T hb) :
    Ret Try.prog 49 #[.pointer (some ⟨hb, 0, none⟩)] w fun r w' => r = .tuple #[] ∧ Hd B T hb ys w' ∧ Ext (fun k => k = hb) w w' := by
  obtain ⟨c, ⟨ys', h1, h2, h3⟩ | ⟨h1, _⟩⟩ := h
  · obtain ⟨rfl, rfl⟩ := List.cons.inj h1
    exact (passb_c hb c _ true false w h2).mono fun r w' ⟨e, b, k⟩ => ⟨e, .inl ⟨c, _, b, h3.agree (Agree.of_ext k fun i _ hi => by rw [show i = hb from hi]; exact ⟨hBh, hTh⟩)⟩, k⟩
  · cases h1
end

/-! ### the merge of lists -/
abbrev PK := Option (Nat × TH)
def bestX (o : PK) : TH := (o.map (·.2)).getD (0, 0)
def bestP (hb : Nat → Nat) (o : PK) : Option Addr := o.map fun p => ⟨hb p.1, 0, none⟩
/-- The first of the least heads among the first. -/
def pk (L : Nat → List TH) : Nat → PK
  | 0 => none
  | j + 1 => match L j, pk L j with
    | [], o => o
    | y :: _, none => some (j, y)
    | y :: _, some (i, x) => if y.1 < x.1 then some (j, y) else some (i, x)
section
variable {L : Nat → List TH} {j : Nat}
theorem pk_nil (h : L j = []) : pk L (j + 1) = pk L j := by rw [pk, h]
theorem pk_new {y : TH} {l : List TH} (h : L j = y :: l) (h2 : (pk L j) = none ∨ y.1 < (bestX (pk L j)).1) : pk L (j + 1) = some (j, y) := by
  rw [pk, h]
  cases hp : pk L j with
  | none => rfl
  | some q =>
    rw [hp] at h2
    simp [bestX] at h2
    simp [h2]
theorem pk_old {y : TH} {l : List TH} (h : L j = y :: l) (h1 : (pk L j) ≠ none) (h2 : ¬ y.1 < (bestX (pk L j)).1) : pk L (j + 1) = pk L j := by
  rw [pk, h]
  cases hp : pk L j with
  | none => exact absurd hp h1
  | some q =>
    rw [hp] at h2
    simp [bestX] at h2
    simp [show ¬ y.1 < q.2.1 by omega]
theorem pk_some : ∀ {n i : Nat} {x : TH}, pk L n = some (i, x) → i < n ∧ ∃ l, L i = x :: l
  | 0, i, x, h => by cases h
  | n + 1, i, x, h => by
    rw [pk] at h
    split at h
    · obtain ⟨h1, h2⟩ := pk_some h; exact ⟨by omega, h2⟩
    · rename_i y l hl hp
      cases h; exact ⟨by omega, l, hl⟩
    · rename_i y l i' x' hl hp
      split at h
      · cases h; exact ⟨by omega, l, hl⟩
      · cases h; obtain ⟨h1, h2⟩ := pk_some hp; exact ⟨by omega, h2⟩
theorem pk_none : ∀ {n : Nat}, pk L n = none → ∀ i, i < n → L i = []
  | 0, _, i, h => by omega
  | n + 1, h, i, hi => by
    rw [pk] at h
    split at h
    · rename_i o hl
      rcases Nat.lt_succ_iff_lt_or_eq.1 hi with h1 | rfl
      · exact pk_none h i h1
      · exact hl
    · cases h
    · split at h <;> cases h
def updL (L : Nat → List TH) (i : Nat) : Nat → List TH := fun j => if j = i then (L j).tail else L j
def totL (L : Nat → List TH) : Nat → Nat
  | 0 => 0
  | n + 1 => totL L n + (L n).length
theorem totL_upd {x : TH} {l : List TH} {i : Nat} (h : L i = x :: l) : ∀ n, totL (updL L i) n + (if i < n then 1 else 0) = totL L n
  | 0 => by simp [totL]
  | n + 1 => by
    have := totL_upd h n
    rw [totL, totL]
    by_cases h1 : n = i
    · subst h1
      simp [updL, h] at this ⊢
      omega
    · have e : updL L i n = L n := by simp [updL, h1]
      rw [e]
      by_cases h2 : i < n
      · simp [h2, show i < n + 1 by omega] at this ⊢; omega
      · simp [h2, show ¬ i < n + 1 by omega] at this ⊢; omega
def mgF (n : Nat) : Nat → (Nat → List TH) → List TH
  | 0, _ => []
  | f + 1, L => match pk L n with
    | none => []
    | some (i, x) => x :: mgF n f (updL L i)
def mgC (n : Nat) (L : Nat → List TH) : List TH := mgF n (totL L n) L
theorem mgC_none {n : Nat} (h : pk L n = none) : mgC n L = [] := by
  rw [mgC]; cases totL L n with
  | zero => rfl
  | succ f => rw [mgF, h]
theorem mgC_some {n i : Nat} {x : TH} (h : pk L n = some (i, x)) : mgC n L = x :: mgC n (updL L i) := by
  obtain ⟨h1, l, h2⟩ := pk_some h
  have := totL_upd h2 n
  rw [if_pos h1] at this
  rw [mgC, ← this, mgF, h]
  rfl
theorem mgC_len : ∀ (t n : Nat) (L : Nat → List TH), totL L n = t → (mgC n L).length ≤ t
  | 0, n, L, h => by rw [mgC, h]; simp [mgF]
  | t + 1, n, L, h => by
    cases hp : pk L n with
    | none => rw [mgC_none hp]; simp
    | some q =>
      obtain ⟨i, x⟩ := q
      rw [mgC_some hp]
      obtain ⟨h1, l, h2⟩ := pk_some hp
      have := totL_upd h2 n
      rw [if_pos h1] at this
      have := mgC_len t n (updL L i) (by omega)
      simp; omega
end
end Go.Proofs.Ytgfficbkajcdpaa
