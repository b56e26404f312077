/- Texts that the proof of CacheSame stands on, part 2. -/
import Derived.Maps.AppendAt
import Derived.Laws.AppendOwnNone
import Derived.Test.YtjjhddjllpihaaaGreatDoorBunCacheSame1
set_option maxHeartbeats 4000000
set_option maxRecDepth 100000
set_option linter.unusedSimpArgs false
namespace Go.Proofs.YtjjhddjllpihaaaGreatDoor.X
open Go
/-! ### 1. From world to world: only blocks of T have turned -/
structure Ext (T : Nat → Prop) (w w' : World) : Prop where
  os : w'.os = w.os
  tape : w'.tape = w.tape
  output : w'.output = w.output
  size : w.heap.size ≤ w'.heap.size
  keep : ∀ k, k < w.heap.size → ¬ T k → w'.heap[k]? = w.heap[k]?
abbrev Keep (w w' : World) : Prop := Ext (fun _ => False) w w'
theorem Ext.refl (T : Nat → Prop) (w : World) : Ext T w w := ⟨rfl, rfl, rfl, Nat.le_refl _, fun _ _ _ => rfl⟩
theorem Ext.trans {T U V : Nat → Prop} {a b c : World} (h : Ext T a b) (h' : Ext U b c) (hT : ∀ k, k < a.heap.size → T k → V k) (hU : ∀ k, k < a.heap.size → U k → V k) : Ext V a c :=
  ⟨h'.os.trans h.os, h'.tape.trans h.tape, h'.output.trans h.output, Nat.le_trans h.size h'.size, fun k hk hn => by
    rw [h'.keep k (Nat.lt_of_lt_of_le hk h.size) (fun hu => hn (hU k hk hu)), h.keep k hk (fun ht => hn (hT k hk ht))]⟩
theorem Ext.mono {T U : Nat → Prop} {a b : World} (h : Ext T a b) (hT : ∀ k, k < a.heap.size → T k → U k) : Ext U a b := ⟨h.os, h.tape, h.output, h.size, fun k hk hn => h.keep k hk fun ht => hn (hT k hk ht)⟩
theorem Keep.refl (w : World) : Keep w w := Ext.refl _ w
theorem Keep.trans {a b c : World} (h : Keep a b) (h' : Keep b c) : Keep a c := Ext.trans h h' (fun _ _ x => x) (fun _ _ x => x)
theorem Keep.step {U : Nat → Prop} {a b c : World} (h : Keep a b) (h' : Ext U b c) (hU : ∀ k, U k → a.heap.size ≤ k) : Keep a c :=
  Ext.trans h h' (fun _ _ x => x) (fun k hk hu => absurd (hU k hu) (Nat.not_le.2 hk))
theorem Keep.below {w w' : World} (h : Keep w w') : RowKit.Below w.heap.size w w' := ⟨h.os, h.tape, h.output, h.size, fun k hk => h.keep k hk id⟩
theorem Ext.of_grown {w w' : World} {row : Option Nat} (h : w.grownBy w' row) : Ext (fun k => row = some k) w w' := ⟨h.os, h.tape, h.output, h.size, fun k hk hn => h.block k hk fun e => hn e.symm⟩
theorem Below.heap_alloc_ (w : World) (o : Obj) (k : Nat) (h : k < w.heap.size) : (w.alloc o).heap[k]? = w.heap[k]? := RowKit.Below.heap_alloc w o k h
theorem Keep.alloc (w : World) (o : Obj) : Keep w (w.alloc o) := ⟨rfl, rfl, rfl, by simp, fun k hk _ => Below.heap_alloc_ w o k hk⟩
theorem Keep.drew (w : World) : Keep w w.drew := ⟨rfl, rfl, rfl, Nat.le_refl _, fun _ _ _ => rfl⟩
theorem Ext.setCell (w : World) (a : Addr) (v : Value) : Ext (fun k => k = a.block) w (w.setCell a v) := ⟨rfl, rfl, rfl, by simp, fun k _ hn => heap_setCell_other w a k v hn⟩
/-! ### 2. A block known whole -/
def Blk (w : World) (b : Nat) (cs : List Value) (e : TypeId) : Prop := w.heap[b]? = some (.cells cs.toArray e (0, 0))
theorem Blk.lt {w : World} {b : Nat} {cs : List Value} {e : TypeId} (h : Blk w b cs e) : b < w.heap.size := lt_of_block h
theorem Blk.ext {w w' : World} {b : Nat} {cs : List Value} {e : TypeId} (h : Blk w b cs e) {T : Nat → Prop} (x : Ext T w w') (hT : ¬ T b) : Blk w' b cs e := (x.keep b h.lt hT).trans h
theorem Blk.keep {w w' : World} {b : Nat} {cs : List Value} {e : TypeId} (h : Blk w b cs e) (x : Keep w w') : Blk w' b cs e := h.ext x id
theorem Blk.cell {w : World} {b : Nat} {cs : List Value} {e : TypeId} (h : Blk w b cs e) (i : Nat) : w.cell? ⟨b, i, none⟩ = cs[i]? := by
  rw [cell_of_row w b i cs.toArray e (0, 0) h]; simp
theorem Blk.free {w : World} {b : Nat} {cs : List Value} {e : TypeId} (h : Blk w b cs e) (i : Nat) : w.frozen? ⟨b, i, none⟩ = false := frozen_of_row w b i cs.toArray e h
theorem Blk.new (w : World) (cs : List Value) (e : TypeId) : Blk (w.alloc (.cells cs.toArray e)) w.heap.size cs e := heap_alloc_new w _
theorem Blk.set {w : World} {b : Nat} {cs : List Value} {e : TypeId} (h : Blk w b cs e) (i : Nat) (v : Value) : Blk (w.setCell ⟨b, i, none⟩ v) b (cs.set i v) e := by
  unfold Blk at h ⊢
  rw [heap_setCell_same w b i cs.toArray e v h]
  simp
/-! ### 3. Data: what a value's cells say. lo, hi: the blocks that it lies in -/
def Stand (lo hi : Nat) (w w' : World) : Prop := ∀ k, lo ≤ k → k < hi → k < w.heap.size → w'.heap[k]? = w.heap[k]?
theorem Ext.stand {T : Nat → Prop} {w w' : World} (x : Ext T w w') {lo hi : Nat} (hT : ∀ k, lo ≤ k → k < hi → ¬ T k) : Stand lo hi w w' := fun k h1 h2 h3 => x.keep k h3 (hT k h1 h2)
theorem Stand.cell {lo hi : Nat} {w w' : World} (h : Stand lo hi w w') {a : Addr} {v : Value} (h1 : lo ≤ a.block) (h2 : a.block < hi) (hc : w.cell? a = some v) : w'.cell? a = some v := by
  rw [World.cell?_of_block (w := w) (h _ h1 h2 (World.block_lt_of_cell? w a hc))]; exact hc
structure Kd (α : Type) where
  sz : Nat
  R : Nat → Nat → World → α → List Value → Prop
  len : ∀ {lo hi w x cs}, R lo hi w x cs → cs.length = sz
  move : ∀ {lo hi w w' x cs}, R lo hi w x cs → Stand lo hi w w' → R lo hi w' x cs
  wide : ∀ {lo hi lo' hi' w x cs}, R lo hi w x cs → lo' ≤ lo → hi ≤ hi' → R lo' hi' w x cs
  one : ∀ {lo hi w x cs}, R lo hi w x cs → ∀ u, u ∈ cs → u.oneCell' = true
def Kd.plain {α : Type} (sz : Nat) (enc : α → List Value) (ok : α → Prop) (hl : ∀ x, (enc x).length = sz) (h1 : ∀ x u, u ∈ enc x → u.oneCell' = true) : Kd α where
  sz := sz
  R := fun _ _ _ x cs => cs = enc x ∧ ok x
  len := by intro lo hi w x cs h; rw [h.1]; exact hl x
  move := fun h _ => h
  wide := fun h _ _ => h
  one := by intro lo hi w x cs h u hu; rw [h.1] at hu; exact h1 x u hu
structure Sl {α : Type} (K : Kd α) (lo hi : Nat) (w : World) (A : Option Addr) (n : Nat) (xs : List α) : Prop where
  len : xs.length = n
  bound : n ≤ 9223372036854775807
  at_ : 0 < n → ∃ ad, A = some ad ∧ lo ≤ ad.block ∧ ad.block < hi ∧ ∀ j x, xs[j]? = some x → ∃ cs, K.R lo hi w x cs ∧ ∀ i u, cs[i]? = some u → w.cell? (ad.add (j * K.sz + i)) = some u
theorem add_block (ad : Addr) (n : Nat) : (ad.add n).block = ad.block := by unfold Addr.add; split <;> rfl
theorem add_add (ad : Addr) (m n : Nat) : (ad.add m).add n = ad.add (m + n) := by
  unfold Addr.add
  by_cases h1 : m = 0 <;> by_cases h2 : n = 0 <;> simp [h1, h2, Nat.add_assoc]
theorem add_zero (ad : Addr) : ad.add 0 = ad := by simp [Addr.add]
theorem add_mk (b i n : Nat) : (⟨b, i, none⟩ : Addr).add n = ⟨b, i + n, none⟩ := by unfold Addr.add; split <;> simp_all
section
variable {α : Type} {K : Kd α} {lo hi : Nat} {w w' : World} {A : Option Addr} {n : Nat} {xs : List α}
theorem Sl.move (h : Sl K lo hi w A n xs) (hk : Stand lo hi w w') : Sl K lo hi w' A n xs :=
  ⟨h.len, h.bound, fun hn => by
    obtain ⟨ad, e, h1, h2, hc⟩ := h.at_ hn
    refine ⟨ad, e, h1, h2, fun j x hx => ?_⟩
    obtain ⟨cs, hr, hcell⟩ := hc j x hx
    exact ⟨cs, K.move hr hk, fun i u hu => hk.cell (by rw [add_block]; exact h1) (by rw [add_block]; exact h2) (hcell i u hu)⟩⟩
theorem Sl.ext (h : Sl K lo hi w A n xs) {T : Nat → Prop} (x : Ext T w w') (hT : ∀ k, lo ≤ k → k < hi → ¬ T k) : Sl K lo hi w' A n xs := h.move (x.stand hT)
theorem Sl.keep (h : Sl K lo hi w A n xs) (x : Keep w w') : Sl K lo hi w' A n xs := h.ext x fun _ _ _ => id
theorem Sl.wide (h : Sl K lo hi w A n xs) {lo' hi' : Nat} (hl : lo' ≤ lo) (hh : hi ≤ hi') : Sl K lo' hi' w A n xs :=
  ⟨h.len, h.bound, fun hn => by
    obtain ⟨ad, e, h1, h2, hc⟩ := h.at_ hn
    exact ⟨ad, e, Nat.le_trans hl h1, Nat.lt_of_lt_of_le h2 hh, fun j x hx => by
      obtain ⟨cs, hr, hcell⟩ := hc j x hx
      exact ⟨cs, K.wide hr hl hh, hcell⟩⟩⟩
theorem Sl.nil (K : Kd α) (lo hi : Nat) (w : World) (A : Option Addr) : Sl K lo hi w A 0 [] := ⟨rfl, by omega, fun h => absurd h Zz⟩
theorem Sl.take (h : Sl K lo hi w A n xs) (i : Nat) (hle : i ≤ n) : Sl K lo hi w A i (xs.take i) :=
  ⟨by rw [List.length_take, h.len, Nat.min_eq_left hle], by have := h.bound; omega, fun hp => by
    obtain ⟨ad, e, h1, h2, hc⟩ := h.at_ Zz
    refine ⟨ad, e, h1, h2, fun j x hx => hc j x ?_⟩
    rw [List.getElem?_take] at hx
    split at hx
    · exact hx
    · cases hx⟩
theorem Sl.drop (h : Sl K lo hi w A n xs) (i c : Nat) (hle : i ≤ n) (hc : n ≤ c) : Sl K lo hi w (if c = i then A else A.map (·.add (i * K.sz))) (n - i) (xs.drop i) :=
  ⟨by rw [List.length_drop, h.len], by have := h.bound; omega, fun hp => by
    obtain ⟨ad, e, h1, h2, hcell⟩ := h.at_ Zz
    rw [if_neg Zz, e]
    refine ⟨ad.add (i * K.sz), rfl, by rw [add_block]; exact h1, by rw [add_block]; exact h2, fun j x hx => ?_⟩
    rw [List.getElem?_drop] at hx
    obtain ⟨cs, hr, hq⟩ := hcell (i + j) x hx
    refine ⟨cs, hr, fun m u hu => ?_⟩
    rw [add_add, show i * K.sz + (j * K.sz + m) = (i + j) * K.sz + m by rw [Nat.add_mul]; omega]
    exact hq m u hu⟩
theorem Sl.get (h : Sl K lo hi w A n xs) (j : Nat) (x : α) (hx : xs[j]? = some x) : ∃ ad cs, A = some ad ∧ K.R lo hi w x cs ∧ ∀ i u, cs[i]? = some u → w.cell? (ad.add (j * K.sz + i)) = some u := by
  have hj : j < n := by rw [← h.len]; exact (List.getElem?_eq_some_iff.1 hx).1
  obtain ⟨ad, e, _, _, hc⟩ := h.at_ Zz
  obtain ⟨cs, hr, hq⟩ := hc j x hx
  exact ⟨ad, cs, e, hr, hq⟩
end
def Kd.slice {α : Type} (K : Kd α) : Kd (List α) where
  sz := 1
  R := fun lo hi w xs cs => ∃ A n c, cs = [.slice A n c] ∧ n ≤ c ∧ Sl K lo hi w A n xs
  len := by rintro lo hi w x cs ⟨A, n, c, rfl, _⟩; rfl
  move := by rintro lo hi w w' x cs ⟨A, n, c, rfl, hc, hs⟩ hk; exact ⟨A, n, c, rfl, hc, hs.move hk⟩
  wide := by rintro lo hi lo' hi' w x cs ⟨A, n, c, rfl, hc, hs⟩ hl hh; exact ⟨A, n, c, rfl, hc, hs.wide hl hh⟩
  one := by rintro lo hi w x cs ⟨A, n, c, rfl, _⟩ u hu; simp at hu; subst hu; rfl
def Kd.pair {α β : Type} (K : Kd α) (L : Kd β) : Kd (α × β) where
  sz := K.sz + L.sz
  R := fun lo hi w x cs => ∃ a b, cs = a ++ b ∧ K.R lo hi w x.1 a ∧ L.R lo hi w x.2 b
  len := by rintro lo hi w x cs ⟨a, b, rfl, h1, h2⟩; rw [List.length_append, K.len h1, L.len h2]
  move := by rintro lo hi w w' x cs ⟨a, b, rfl, h1, h2⟩ hk; exact ⟨a, b, rfl, K.move h1 hk, L.move h2 hk⟩
  wide := by rintro lo hi lo' hi' w x cs ⟨a, b, rfl, h1, h2⟩ hl hh; exact ⟨a, b, rfl, K.wide h1 hl hh, L.wide h2 hl hh⟩
  one := by
    rintro lo hi w x cs ⟨a, b, rfl, h1, h2⟩ u hu
    rcases List.mem_append.1 hu with hu | hu
    · exact K.one h1 u hu
    · exact L.one h2 u hu
def Reps {α : Type} (K : Kd α) (lo hi : Nat) (w : World) : List α → List Value → Prop
  | [], cs => cs = []
  | x :: xs, cs => ∃ a b, cs = a ++ b ∧ K.R lo hi w x a ∧ Reps K lo hi w xs b
section
variable {α : Type} {K : Kd α} {lo hi : Nat} {w w' : World}
theorem Reps.length : ∀ {xs : List α} {cs : List Value}, Reps K lo hi w xs cs → cs.length = xs.length * K.sz
  | [], cs, h => by simp [show cs = [] from h]
  | x :: xs, cs, ⟨a, b, e, h1, h2⟩ => by rw [e, List.length_append, K.len h1, Reps.length h2, List.length_cons, Nat.add_mul, Nat.one_mul, Nat.add_comm]
theorem Reps.move (hk : Stand lo hi w w') : ∀ {xs : List α} {cs : List Value}, Reps K lo hi w xs cs → Reps K lo hi w' xs cs
  | [], _, h => h
  | _ :: _, _, ⟨a, b, e, h1, h2⟩ => ⟨a, b, e, K.move h1 hk, Reps.move hk h2⟩
theorem Reps.wide {lo' hi' : Nat} (hl : lo' ≤ lo) (hh : hi ≤ hi') : ∀ {xs : List α} {cs : List Value}, Reps K lo hi w xs cs → Reps K lo' hi' w xs cs
  | [], _, h => h
  | _ :: _, _, ⟨a, b, e, h1, h2⟩ => ⟨a, b, e, K.wide h1 hl hh, Reps.wide hl hh h2⟩
theorem Reps.app : ∀ {xs ys : List α} {cs ds : List Value}, Reps K lo hi w xs cs → Reps K lo hi w ys ds → Reps K lo hi w (xs ++ ys) (cs ++ ds)
  | [], ys, cs, ds, h, h' => by rw [show cs = [] from h]; exact h'
  | x :: xs, ys, cs, ds, ⟨a, b, e, h1, h2⟩, h' => ⟨a, b ++ ds, by rw [e, List.append_assoc], h1, Reps.app h2 h'⟩
theorem Reps.single {x : α} {cs : List Value} (h : K.R lo hi w x cs) : Reps K lo hi w [x] cs := ⟨cs, [], by simp, h, rfl⟩
theorem Reps.get : ∀ {xs : List α} {cs : List Value}, Reps K lo hi w xs cs → ∀ j x, xs[j]? = some x → ∃ a, K.R lo hi w x a ∧ ∀ i u, a[i]? = some u → cs[j * K.sz + i]? = some u
  | [], _, _, j, x, hx => by simp at hx
  | y :: ys, cs, ⟨a, b, e, h1, h2⟩, j, x, hx => by
    cases j with
    | zero =>
      simp only [List.getElem?_cons_zero, Option.some.injEq] at hx
      subst hx
      exact ⟨a, h1, fun i u hu => by
        have hi : i < a.length := (List.getElem?_eq_some_iff.1 hu).1
        rw [e, Nat.zero_mul, Nat.zero_add, List.getElem?_append_left hi]; exact hu⟩
    | succ j =>
      simp only [List.getElem?_cons_succ] at hx
      obtain ⟨c, hc, hq⟩ := Reps.get h2 j x hx
      refine ⟨c, hc, fun i u hu => ?_⟩
      have := K.len h1
      rw [e, List.getElem?_append_right (by rw [Nat.add_mul]; omega)]
      rw [show (j + 1) * K.sz + i - a.length = j * K.sz + i by rw [Nat.add_mul]; omega]
      exact hq i u hu
theorem Reps.one : ∀ {xs : List α} {cs : List Value}, Reps K lo hi w xs cs → ∀ u, u ∈ cs → u.oneCell' = true
  | [], cs, h, u, hu => by rw [show cs = [] from h] at hu; cases hu
  | _ :: _, _, ⟨a, b, e, h1, h2⟩, u, hu => by
    rw [e] at hu
    rcases List.mem_append.1 hu with hu | hu
    · exact K.one h1 u hu
    · exact Reps.one h2 u hu
theorem Sl.reps {A : Option Addr} {n : Nat} {xs : List α} (h : Sl K lo hi w A n xs) : ∃ cs, Reps K lo hi w xs cs ∧ ∀ ad, A = some ad → ∀ j u, cs[j]? = some u → w.cell? (ad.add j) = some u := by
  rcases Nat.eq_zero_or_pos n with h0 | h0
  · have : xs = [] := List.eq_nil_of_length_eq_zero (h.len.trans h0)
    subst this
    exact ⟨[], rfl, fun _ _ j u hu => by simp at hu⟩
  · obtain ⟨ad, e, _, _, hc⟩ := h.at_ h0
    clear h h0
    subst e
    have key : ∀ (ys : List α) (off : Nat), (∀ j x, ys[j]? = some x → ∃ cs, K.R lo hi w x cs ∧ ∀ i u, cs[i]? = some u → w.cell? (ad.add (off + (j * K.sz + i))) = some u) →
        ∃ cs, Reps K lo hi w ys cs ∧ ∀ j u, cs[j]? = some u → w.cell? (ad.add (off + j)) = some u := by
      intro ys
      induction ys with
      | nil => intro off _; exact ⟨[], rfl, fun j u hu => by simp at hu⟩
      | cons y ys ih =>
        intro off hq
        obtain ⟨a, ha, hca⟩ := hq 0 y rfl
        obtain ⟨b, hb, hcb⟩ := ih (off + K.sz) fun j x hx => by
          obtain ⟨cs, hr, hq'⟩ := hq (j + 1) x (by simpa using hx)
          exact ⟨cs, hr, fun i u hu => by rw [show off + K.sz + (j * K.sz + i) = off + ((j + 1) * K.sz + i) by rw [Nat.add_mul]; omega]; exact hq' i u hu⟩
        refine ⟨a ++ b, ⟨a, b, rfl, ha, hb⟩, fun j u hu => ?_⟩
        rcases Nat.lt_or_ge j a.length with hj | hj
        · rw [List.getElem?_append_left hj] at hu
          have := hca j u hu
          rwa [Nat.zero_mul, Nat.zero_add] at this
        · rw [List.getElem?_append_right hj] at hu
          have := hcb _ u hu
          rwa [K.len ha, show off + K.sz + (j - K.sz) = off + j by have := K.len ha; omega] at this
    obtain ⟨cs, h1, h2⟩ := key xs 0 fun j x hx => by
      obtain ⟨cs, hr, hq⟩ := hc j x hx
      exact ⟨cs, hr, fun i u hu => by rw [Nat.zero_add]; exact hq i u hu⟩
    refine ⟨cs, h1, fun ad' e j u hu => ?_⟩
    cases e
    have := h2 j u hu
    rwa [Nat.zero_add] at this
end
/-! ### 4. A row that is the call's own -/
structure Own {α : Type} (K : Kd α) (e : TypeId) (b : Option Nat) (lo hi : Nat) (w : World) (v : Value) (xs : List α) : Prop where
  row : ∃ cs, Reps K lo hi w xs cs ∧ w.ownsRow 0 e K.sz v xs.length cs
  blk : v.ownBlock = b
section
variable {α : Type} {K : Kd α} {e : TypeId} {b : Option Nat} {lo hi : Nat} {w w' : World} {v : Value} {xs : List α}
theorem Own.lt (h : Own K e b lo hi w v xs) : ∀ k, b = some k → k < w.heap.size := by
  obtain ⟨⟨cs, _, ho⟩, rfl⟩ := h
  exact fun k hk => (ho.lt k hk).2
theorem Own.slice (h : Own K e b lo hi w v xs) : ∃ A c, v = .slice A xs.length c ∧ xs.length ≤ c ∧ xs.length ≤ 9223372036854775807 := by
  obtain ⟨⟨cs, _, ho⟩, _⟩ := h
  rcases ho.2 with ⟨rfl, h0⟩ | ⟨g, cap, cur, rfl, _, _, h1, h2, _⟩
  · exact ⟨none, 0, by rw [h0], by omega, by omega⟩
  · exact ⟨_, cap, rfl, h1, by simp only [maxLen] at h2; omega⟩
theorem Own.nil (K : Kd α) (e : TypeId) (lo hi : Nat) (w : World) : Own K e none lo hi w (.slice none 0 0) [] := ⟨⟨[], rfl, World.ownsRow_nil _ _ _ _⟩, rfl⟩
theorem Own.ext (h : Own K e b lo hi w v xs) {T : Nat → Prop} (x : Ext T w w') (hT : ∀ k, lo ≤ k → k < hi → ¬ T k) (hb : ∀ k, b = some k → ¬ T k) : Own K e b lo hi w' v xs := by
  obtain ⟨⟨cs, hr, ho⟩, rfl⟩ := h
  refine ⟨⟨cs, hr.move (x.stand hT), ho.1, ?_⟩, rfl⟩
  rcases ho.2 with h0 | ⟨g, cap, cur, rfl, hg, hh, r⟩
  · exact .inl h0
  · exact .inr ⟨g, cap, cur, rfl, hg, (x.keep g (lt_of_block hh) (hb g rfl)).trans hh, r⟩
theorem Own.keep (h : Own K e b lo hi w v xs) (x : Keep w w') : Own K e b lo hi w' v xs := h.ext x (fun _ _ _ => id) (fun _ _ => id)
theorem Own.wide (h : Own K e b lo hi w v xs) {lo' hi' : Nat} (hl : lo' ≤ lo) (hh : hi ≤ hi') : Own K e b lo' hi' w v xs := by
  obtain ⟨⟨cs, hr, ho⟩, hb⟩ := h
  exact ⟨⟨cs, hr.wide hl hh, ho⟩, hb⟩
theorem Own.sl (h : Own K e b lo hi w v xs) (hb : ∀ k, b = some k → lo ≤ k ∧ k < hi) : ∃ A c, v = .slice A xs.length c ∧ xs.length ≤ c ∧ Sl K lo hi w A xs.length xs := by
  obtain ⟨A, c, rfl, hc, hm⟩ := h.slice
  refine ⟨A, c, rfl, hc, rfl, hm, fun hn => ?_⟩
  obtain ⟨⟨cs, hr, ho⟩, rfl⟩ := h
  rcases ho.2 with ⟨h0, h1⟩ | ⟨g, cap, cur, he, hg, hh, r⟩
  · omega
  · injection he with he _ _
    subst he
    refine ⟨_, rfl, (hb g rfl).1, (hb g rfl).2, fun j x hx => ?_⟩
    obtain ⟨a, ha, hq⟩ := hr.get j x hx
    exact ⟨a, ha, fun i u hu => ho.cells (g := g) rfl _ u (hq i u hu)⟩
end
/-! ### numbers within their kinds -/
theorem w_i64 {n : Int} (h : -9223372036854775808 ≤ n ∧ n ≤ 9223372036854775807) : IntKind.i64.wrap n = n := by
  exact IntWalk.i64_in n h
theorem w_u64 {n : Int} (h : 0 ≤ n ∧ n ≤ 18446744073709551615) : IntKind.u64.wrap n = n := by
  simp only [IntKind.wrap, IntKind.bits, IntKind.signed, Bool.false_and, Bool.false_eq_true, if_false]
  omega
theorem w_u32 {n : Int} (h : 0 ≤ n ∧ n ≤ 4294967295) : IntKind.u32.wrap n = n := by
  simp only [IntKind.wrap, IntKind.bits, IntKind.signed, Bool.false_and, Bool.false_eq_true, if_false]
  omega
theorem u64_wrap (n : Int) : IntKind.u64.wrap n = n % 18446744073709551616 := by
  simp [IntKind.wrap, IntKind.bits, IntKind.signed]
theorem u32_wrap (n : Int) : IntKind.u32.wrap n = n % 4294967296 := by
  simp [IntKind.wrap, IntKind.bits, IntKind.signed]
theorem u8_wrap (n : Int) : IntKind.u8.wrap n = n % 256 := by
  simp [IntKind.wrap, IntKind.bits, IntKind.signed]
section
variable {P : Program} {ρ : Operand → Value} {w : World} {dst : Option Tmp} {ty : TypeId} {pos : String} {aft : Array Edge} {g : Option (Nat × Bool)}
theorem move {x : Operand} {v : Value} (h : ρ x = v) : Does P ⟨dst, .move x, ty, pos, aft, g⟩ ρ w v w := does_run rfl (by simp [execOp, h])
theorem assign {x : Operand} {v : Value} (h : ρ x = v) : Does P ⟨dst, .assign x, ty, pos, aft, g⟩ ρ w v w := does_run rfl (by simp [execOp, h])
theorem pickT {c a b : Operand} {v : Value} (hc : ρ c = .bool true) (h : ρ a = v) : Does P ⟨dst, .pick c a b, ty, pos, aft, g⟩ ρ w v w := does_run rfl (by simp [execOp, asBool, hc, h])
theorem pickF {c a b : Operand} {v : Value} (hc : ρ c = .bool false) (h : ρ b = v) : Does P ⟨dst, .pick c a b, ty, pos, aft, g⟩ ρ w v w := does_run rfl (by simp [execOp, asBool, hc, h])
theorem nilCk {x : Operand} {a : Addr} (h : ρ x = .pointer (some a)) : Does P ⟨dst, .nilCheck x, ty, pos, aft, g⟩ ρ w (.pointer (some a)) w := does_run rfl (by simp [execOp, h])
theorem extr {x : Operand} {vs : Array Value} {i : Nat} {v : Value} (h : ρ x = .tuple vs) (hv : vs[i]? = some v) : Does P ⟨dst, .extract x i, ty, pos, aft, g⟩ ρ w v w := does_run rfl (by simp [execOp, Instr.extract, h, hv])
/-! ### whole numbers -/
theorem add {kd : IntKind} {T T' : TypeId} {x y : Operand} {a b c : Int} (hx : ρ x = .int kd a) (hy : ρ y = .int kd b) (hc : kd.wrap (a + b) = c) : Does P ⟨dst, .binOp .add T x y T', ty, pos, aft, g⟩ ρ w (.int kd c) w :=
  does_run rfl (by simp [execOp, hx, hy, binOp, eqGuard, Op.intArith, hc])
theorem sub {kd : IntKind} {T T' : TypeId} {x y : Operand} {a b c : Int} (hx : ρ x = .int kd a) (hy : ρ y = .int kd b) (hc : kd.wrap (a - b) = c) : Does P ⟨dst, .binOp .sub T x y T', ty, pos, aft, g⟩ ρ w (.int kd c) w :=
  does_run rfl (by simp [execOp, hx, hy, binOp, eqGuard, Op.intArith, hc])
theorem mul {kd : IntKind} {T T' : TypeId} {x y : Operand} {a b c : Int} (hx : ρ x = .int kd a) (hy : ρ y = .int kd b) (hc : kd.wrap (a * b) = c) : Does P ⟨dst, .binOp .mul T x y T', ty, pos, aft, g⟩ ρ w (.int kd c) w :=
  does_run rfl (by simp [execOp, hx, hy, binOp, eqGuard, Op.intArith, hc])
theorem quo {kd : IntKind} {T T' : TypeId} {x y : Operand} {a b c : Int} (hx : ρ x = .int kd a) (hy : ρ y = .int kd b) (h0 : b ≠ 0) (hc : kd.wrap (a.tdiv b) = c) : Does P ⟨dst, .binOp .quo T x y T', ty, pos, aft, g⟩ ρ w (.int kd c) w :=
  does_run rfl (by simp [execOp, hx, hy, binOp, eqGuard, Op.intDiv, hc, h0])
theorem rem {kd : IntKind} {T T' : TypeId} {x y : Operand} {a b c : Int} (hx : ρ x = .int kd a) (hy : ρ y = .int kd b) (h0 : b ≠ 0) (hc : a.tmod b = c) : Does P ⟨dst, .binOp .rem T x y T', ty, pos, aft, g⟩ ρ w (.int kd c) w :=
  does_run rfl (by simp [execOp, hx, hy, binOp, eqGuard, Op.intDiv, hc, h0])
theorem and_ {kd : IntKind} {T T' : TypeId} {x y : Operand} {a b c : Int} (hx : ρ x = .int kd a) (hy : ρ y = .int kd b) (hc : kd.wrap (BitVec.ofInt kd.bits a &&& BitVec.ofInt kd.bits b).toNat = c) : Does P ⟨dst, .binOp .and T x y T', ty, pos, aft, g⟩ ρ w (.int kd c) w :=
  does_run rfl (by simp only [execOp, hx, hy, binOp, eqGuard, Op.intBits, hc]; simp)
theorem or_ {kd : IntKind} {T T' : TypeId} {x y : Operand} {a b c : Int} (hx : ρ x = .int kd a) (hy : ρ y = .int kd b) (hc : kd.wrap (BitVec.ofInt kd.bits a ||| BitVec.ofInt kd.bits b).toNat = c) : Does P ⟨dst, .binOp .or T x y T', ty, pos, aft, g⟩ ρ w (.int kd c) w :=
  does_run rfl (by simp only [execOp, hx, hy, binOp, eqGuard, Op.intBits, hc]; simp)
theorem xor_ {kd : IntKind} {T T' : TypeId} {x y : Operand} {a b c : Int} (hx : ρ x = .int kd a) (hy : ρ y = .int kd b) (hc : kd.wrap (BitVec.ofInt kd.bits a ^^^ BitVec.ofInt kd.bits b).toNat = c) : Does P ⟨dst, .binOp .xor T x y T', ty, pos, aft, g⟩ ρ w (.int kd c) w :=
  does_run rfl (by simp only [execOp, hx, hy, binOp, eqGuard, Op.intBits, hc]; simp)
theorem shl {kd yk : IntKind} {T T' : TypeId} {x y : Operand} {a b c : Int} (hx : ρ x = .int kd a) (hy : ρ y = .int yk b) (h0 : 0 ≤ b) (hc : kd.wrap (a * 2 ^ (min b.toNat kd.bits)) = c) : Does P ⟨dst, .binOp .shl T x y T', ty, pos, aft, g⟩ ρ w (.int kd c) w :=
  does_run rfl (by simp [execOp, hx, hy, binOp, eqGuard, Op.shift, hc, show ¬ b < 0 by omega])
theorem shr {kd yk : IntKind} {T T' : TypeId} {x y : Operand} {a b c : Int} (hx : ρ x = .int kd a) (hy : ρ y = .int yk b) (h0 : 0 ≤ b) (hc : a.fdiv (2 ^ (min b.toNat kd.bits)) = c) : Does P ⟨dst, .binOp .shr T x y T', ty, pos, aft, g⟩ ρ w (.int kd c) w :=
  does_run rfl (by simp [execOp, hx, hy, binOp, eqGuard, Op.shift, hc, show ¬ b < 0 by omega])
theorem lss {kd : IntKind} {T T' : TypeId} {x y : Operand} {a b : Int} (hx : ρ x = .int kd a) (hy : ρ y = .int kd b) : Does P ⟨dst, .binOp .lss T x y T', ty, pos, aft, g⟩ ρ w (.bool (decide (a < b))) w :=
  does_run rfl (by simp [execOp, hx, hy, binOp, eqGuard, Op.intCmp])
theorem leq {kd : IntKind} {T T' : TypeId} {x y : Operand} {a b : Int} (hx : ρ x = .int kd a) (hy : ρ y = .int kd b) : Does P ⟨dst, .binOp .leq T x y T', ty, pos, aft, g⟩ ρ w (.bool (decide (a ≤ b))) w :=
  does_run rfl (by simp [execOp, hx, hy, binOp, eqGuard, Op.intCmp])
theorem gtr {kd : IntKind} {T T' : TypeId} {x y : Operand} {a b : Int} (hx : ρ x = .int kd a) (hy : ρ y = .int kd b) : Does P ⟨dst, .binOp .gtr T x y T', ty, pos, aft, g⟩ ρ w (.bool (decide (b < a))) w :=
  does_run rfl (by simp [execOp, hx, hy, binOp, eqGuard, Op.intCmp])
theorem geq {kd : IntKind} {T T' : TypeId} {x y : Operand} {a b : Int} (hx : ρ x = .int kd a) (hy : ρ y = .int kd b) : Does P ⟨dst, .binOp .geq T x y T', ty, pos, aft, g⟩ ρ w (.bool (decide (b ≤ a))) w :=
  does_run rfl (by simp [execOp, hx, hy, binOp, eqGuard, Op.intCmp])
theorem eqI {kd : IntKind} {T T' : TypeId} {x y : Operand} {a b : Int} (hx : ρ x = .int kd a) (hy : ρ y = .int kd b) : Does P ⟨dst, .binOp .eql T x y T', ty, pos, aft, g⟩ ρ w (.bool (decide (a = b))) w :=
  does_run rfl (by simp [execOp, hx, hy, binOp, eqGuard, Op.intCmp]; rfl)
theorem neI {kd : IntKind} {T T' : TypeId} {x y : Operand} {a b : Int} (hx : ρ x = .int kd a) (hy : ρ y = .int kd b) : Does P ⟨dst, .binOp .neq T x y T', ty, pos, aft, g⟩ ρ w (.bool (decide (a ≠ b))) w :=
  does_run rfl (by
    have : (a != b) = decide (a ≠ b) := by by_cases h : a = b <;> simp [h]
    simp [execOp, hx, hy, binOp, eqGuard, Op.intCmp, this])
theorem not_ {T : TypeId} {x : Operand} {b : Bool} (hx : ρ x = .bool b) : Does P ⟨dst, .unOp .not T x, ty, pos, aft, g⟩ ρ w (.bool (!b)) w := does_run rfl (by simp [execOp, hx, Op.unary])
theorem neg {T : TypeId} {kd : IntKind} {x : Operand} {a c : Int} (hx : ρ x = .int kd a) (hc : kd.wrap (0 - a) = c) : Does P ⟨dst, .unOp .neg T x, ty, pos, aft, g⟩ ρ w (.int kd c) w := does_run rfl (by simp [execOp, hx, Op.unary, Op.intArith]; simpa using hc)
theorem com {T : TypeId} {kd : IntKind} {x : Operand} {a c : Int} (hx : ρ x = .int kd a) (hc : kd.wrap (BitVec.ofInt kd.bits (if kd.signed then -1 else kd.max) ^^^ BitVec.ofInt kd.bits a).toNat = c) : Does P ⟨dst, .unOp .xor T x, ty, pos, aft, g⟩ ρ w (.int kd c) w :=
  does_run rfl (by simp only [execOp, hx, Op.unary, Op.intBits, hc]; simp)
theorem cvI {S T : TypeId} {kd kx : IntKind} {x : Operand} {a c : Int} {ds : TypeDesc} (hS : P.underlying S = some ds) (hT : P.underlying T = some (.int kd)) (hx : ρ x = .int kx a) (hc : kd.wrap a = c) : Does P ⟨dst, .convert S T x, ty, pos, aft, g⟩ ρ w (.int kd c) w :=
  does_run rfl (by simp [execOp, hx, convert, run_underlying hS, run_underlying hT, Conv.intToInt, hc])
theorem eqS {T T' : TypeId} {x y : Operand} {a b : ByteArray} (hx : ρ x = .string a) (hy : ρ y = .string b) : Does P ⟨dst, .binOp .eql T x y T', ty, pos, aft, g⟩ ρ w (.bool (a.toList == b.toList)) w :=
  does_run rfl (by simp [execOp, hx, hy, binOp, eqGuard, Op.stringOp])
theorem neS {T T' : TypeId} {x y : Operand} {a b : ByteArray} (hx : ρ x = .string a) (hy : ρ y = .string b) : Does P ⟨dst, .binOp .neq T x y T', ty, pos, aft, g⟩ ρ w (.bool (!(a.toList == b.toList))) w :=
  does_run rfl (by simp [execOp, hx, hy, binOp, eqGuard, Op.stringOp])
theorem ltS {T T' : TypeId} {x y : Operand} {a b : ByteArray} (hx : ρ x = .string a) (hy : ρ y = .string b) : Does P ⟨dst, .binOp .lss T x y T', ty, pos, aft, g⟩ ρ w (.bool (Op.bytesLess a.toList b.toList)) w :=
  does_run rfl (by simp [execOp, hx, hy, binOp, eqGuard, Op.stringOp])
/-! ### len -/
theorem lenSl {e T : TypeId} {x : Operand} {A : Option Addr} {n c : Nat} (hT : P.underlying T = some (.slice e)) (hx : ρ x = .slice A n c) : Does P ⟨dst, .call ⟨.builtin .len, #[x], #[T]⟩, ty, pos, aft, g⟩ ρ w (.int .i64 (n : Int)) w :=
  does_run rfl (by simp [execOp, resolve, invoke, builtin, Builtin.len_, run_underlying hT, hx, goInt])
theorem lenS {T : TypeId} {x : Operand} {s : ByteArray} (hT : P.underlying T = some .string) (hx : ρ x = .string s) : Does P ⟨dst, .call ⟨.builtin .len, #[x], #[T]⟩, ty, pos, aft, g⟩ ρ w (.int .i64 (s.size : Int)) w :=
  does_run rfl (by simp [execOp, resolve, invoke, builtin, Builtin.len_, run_underlying hT, hx, goInt])
/-! ### addresses, reads -/
theorem idxAddr {e T : TypeId} {sz : Nat} {x i : Operand} {ki : IntKind} {ad : Addr} {n c : Nat} {j : Int} (hT : P.underlying T = some (.slice e)) (hs : ∀ w, (sizeOf e).run P w = .ok sz w) (hx : ρ x = .slice (some ad) n c) (hi : ρ i = .int ki j) (h0 : 0 ≤ j ∧ j < (n : Int)) :
    Does P ⟨dst, .indexAddr T x i, ty, pos, aft, g⟩ ρ w (.pointer (some (ad.add (j.toNat * sz)))) w :=
  does_run rfl (by simp [execOp, hx, hi, Instr.indexAt, asIntOf, run_underlying hT, hs, h0.1, h0.2])
theorem fldAddr {S : TypeId} {fields : Array Field} {fd : Field} {x : Operand} {ad : Addr} {i : Nat} (hS : P.underlying S = some (.struct fields)) (hf : fields[i]? = some fd) (hx : ρ x = .pointer (some ad)) (hp : ∀ w, (fieldPlace ad fd).run P w = .ok (ad.add fd.offset) w) :
    Does P ⟨dst, .fieldAddr S x i, ty, pos, aft, g⟩ ρ w (.pointer (some (ad.add fd.offset))) w :=
  does_run rfl (by simp [execOp, hx, Instr.fieldAt, run_underlying hS, hf, Instr.sureAddr, hp])
theorem load1 {T : TypeId} {x : Operand} {ad : Addr} {v : Value} (hT : ∀ w, (isAgg T).run P w = .ok false w) (hx : ρ x = .pointer (some ad)) (hc : w.cell? ad = some v) : Does P ⟨dst, .load T x, ty, pos, aft, g⟩ ρ w v w :=
  does_run rfl (by simp [execOp, hx, Instr.loadAt, Instr.sureAddr, loadVar, hT, hc])
end
end Go.Proofs.YtjjhddjllpihaaaGreatDoor.X
