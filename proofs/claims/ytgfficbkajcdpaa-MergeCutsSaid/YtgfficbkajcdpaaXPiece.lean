/- Rows of pieces: a kind and bytes, the bytes in blocks of their own or of what came in. -/
import Derived.Test.YtgfficbkajcdpaaXRange
namespace Go.Proofs.Ytgfficbkajcdpaa.X
open Go
set_option linter.unusedVariables false
set_option linter.unusedSimpArgs false

abbrev PCE := UInt8 × List UInt8
def KPc : Kd PCE := Kd.pair KB (Kd.slice KB)
theorem Sl.all {α : Type} {K : Kd α} (hF : Flat K) (hz : 0 < K.sz) {lo hi : Nat} {w : World} {A : Option Addr} {n : Nat} {xs : List α} (h : Sl K lo hi w A n xs) : Sl K 0 w.heap.size w A n xs := by
  refine ⟨h.len, h.bound, fun hn => ?_⟩
  obtain ⟨ad, e, h1, h2, hc⟩ := h.at_ hn
  refine ⟨ad, e, Nat.zero_le _, ?_, fun j x hx => ?_⟩
  · obtain ⟨cs, hr, hq⟩ := hc 0 (xs[0]'(by rw [h.len]; exact hn)) (List.getElem?_eq_getElem _)
    have hl := K.len hr
    have := hq 0 (cs[0]'(by omega)) (List.getElem?_eq_getElem _)
    have := World.block_lt_of_cell? w _ this
    rwa [add_block] at this
  · obtain ⟨cs, hr, hq⟩ := hc j x hx
    exact ⟨cs, hF hr, hq⟩
/-- What values of pieces hold; their bytes lie in blocks of G. -/
def PData (G : Nat → Prop) (w : World) : List Value → List PCE → Prop
  | [], [] => True
  | v :: vs, p :: ps => (∃ A n c lo hi, v = .agg #[.int .u8 (p.1.toNat : Int), .slice A n c] ∧ n ≤ c ∧ (∀ k, lo ≤ k → k < hi → G k) ∧ Sl KB lo hi w A n p.2) ∧ PData G w vs ps
  | _, _ => False
theorem PData.len {G : Nat → Prop} {w : World} : ∀ {vs : List Value} {ps : List PCE}, PData G w vs ps → vs.length = ps.length
  | [], [], _ => rfl
  | _ :: _, _ :: _, h => by simp [PData.len h.2]
  | [], _ :: _, h => h.elim
  | _ :: _, [], h => h.elim
theorem PData.move {G G' : Nat → Prop} {w w' : World} (hG : ∀ k, G k → G' k) (hs : ∀ k, G k → k < w.heap.size → w'.heap[k]? = w.heap[k]?) : ∀ {vs : List Value} {ps : List PCE}, PData G w vs ps → PData G' w' vs ps
  | [], [], _ => trivial
  | _ :: _, _ :: _, h => by
    obtain ⟨⟨A, n, c, lo, hi, e, h1, h2, h3⟩, h4⟩ := h
    exact ⟨⟨A, n, c, lo, hi, e, h1, fun k a b => hG k (h2 k a b), h3.move fun k a b hk => hs k (h2 k a b) hk⟩, PData.move hG hs h4⟩
  | [], _ :: _, h => h.elim
  | _ :: _, [], h => h.elim
theorem PData.app {G : Nat → Prop} {w : World} : ∀ {vs us : List Value} {ps qs : List PCE}, PData G w vs ps → PData G w us qs → PData G w (vs ++ us) (ps ++ qs)
  | [], _, [], _, _, h => h
  | _ :: _, _, _ :: _, _, h, h' => ⟨h.1, PData.app h.2 h'⟩
  | [], _, _ :: _, _, h, _ => h.elim
  | _ :: _, _, [], _, h, _ => h.elim
theorem PData.get {G : Nat → Prop} {w : World} : ∀ {vs : List Value} {ps : List PCE}, PData G w vs ps → ∀ {j : Nat} {p : PCE}, ps[j]? = some p → ∃ A n c lo hi, vs[j]? = some (.agg #[.int .u8 (p.1.toNat : Int), .slice A n c]) ∧ n ≤ c ∧ Sl KB lo hi w A n p.2
  | [], [], _, j, p, hp => by simp at hp
  | v :: vs, q :: ps, h, j, p, hp => by
    cases j with
    | zero =>
      simp only [List.getElem?_cons_zero, Option.some.injEq] at hp
      subst hp
      obtain ⟨A, n, c, lo, hi, e, h1, _, h3⟩ := h.1
      exact ⟨A, n, c, lo, hi, by rw [e]; rfl, h1, h3⟩
    | succ j =>
      simp only [List.getElem?_cons_succ] at hp ⊢
      exact PData.get h.2 hp
  | [], _ :: _, h, _, _, _ => h.elim
  | _ :: _, [], h, _, _, _ => h.elim
/-- A row of pieces that is the call's own: its row in a block from base on, its bytes in blocks of G. -/
structure PR (e base : Nat) (G : Nat → Prop) (w : World) (v : Value) (ps : List PCE) : Prop where
  row : ∃ vs, Mine (KRN 2) e (fun k => base ≤ k ∧ ¬ G k) 0 0 w v vs ∧ PData G w vs ps
  g : ∀ k, G k → k < w.heap.size
  b : base ≤ w.heap.size
section
variable {e base : Nat} {G : Nat → Prop} {w w' : World} {v : Value} {ps : List PCE}
theorem PR.nil (e base : Nat) (w : World) (hb : base ≤ w.heap.size) : PR e base (fun _ => False) w (.slice none 0 0) [] := ⟨⟨[], Mine.nil _ _ _ _ _ _, trivial⟩, fun _ h => h.elim, hb⟩
theorem PR.ext (h : PR e base G w v ps) {T : Nat → Prop} (x : Ext T w w') (hT : ∀ k, T k → k < base ∧ ¬ G k) : PR e base G w' v ps := by
  obtain ⟨⟨vs, hM, hD⟩, hg, hb⟩ := h
  exact ⟨⟨vs, hM.ext x (by intro k h1 h2; omega) (fun k hk ht => by have := hT k ht; omega), hD.move (fun _ h => h) (fun k hk hl => x.keep k hl (fun ht => (hT k ht).2 hk))⟩, fun k hk => Nat.lt_of_lt_of_le (hg k hk) x.size, Nat.le_trans hb x.size⟩
theorem PR.keep (h : PR e base G w v ps) (x : Keep w w') : PR e base G w' v ps := h.ext x fun _ h => h.elim
/-- New blocks, or old ones, for bytes. -/
theorem PR.widen (h : PR e base G w v ps) (x : Keep w w') {H : Nat → Prop} (hH : ∀ k, H k → (w.heap.size ≤ k ∨ k < base) ∧ k < w'.heap.size) : PR e base (fun k => G k ∨ H k) w' v ps := by
  obtain ⟨⟨vs, hM, hD⟩, hg, hb⟩ := h
  refine ⟨⟨vs, (hM.mono (T := fun k => base ≤ k ∧ ¬ (G k ∨ H k)) fun k hk hS => ⟨hS.1, fun hq => hq.elim hS.2 fun hh => ?_⟩).keep x, hD.move (fun _ h => .inl h) (fun k _ hl => x.keep k hl id)⟩, fun k hk => hk.elim (fun h => Nat.lt_of_lt_of_le (hg k h) x.size) (fun h => (hH k h).2), Nat.le_trans hb x.size⟩
  have := (hH k hh).1
  omega
theorem PR.len (h : PR e base G w v ps) : ∃ A c, v = .slice A ps.length c ∧ ps.length ≤ c := by
  obtain ⟨⟨vs, hM, hD⟩, _, _⟩ := h
  obtain ⟨A, c, e1, h1, _⟩ := hM.slice
  rw [hD.len] at e1 h1
  exact ⟨A, c, e1, h1⟩
theorem PR.one (h : PR e base G w v ps) : v.oneCell' = true := by
  obtain ⟨A, c, rfl, _⟩ := h.len; rfl
/-- Read. -/
theorem PR.read (h : PR e base G w v ps) : ∃ A c, v = .slice A ps.length c ∧ ps.length ≤ c ∧ Sl KPc 0 w.heap.size w A ps.length ps := by
  obtain ⟨⟨vs, hM, hD⟩, _, _⟩ := h
  have q := hM.slF (KRN_flat 2) 0 (fun _ _ => Nat.zero_le _)
  obtain ⟨A, c, e1, h1, hs⟩ := q
  have hl := hD.len
  rw [hl] at e1 h1 hs
  refine ⟨A, c, e1, h1, rfl, hs.bound, fun hn => ?_⟩
  obtain ⟨ad, e2, g1, g2, hc⟩ := hs.at_ hn
  refine ⟨ad, e2, g1, g2, fun j p hp => ?_⟩
  obtain ⟨B, m, c', lo, hi, hv, hm, hS⟩ := hD.get hp
  obtain ⟨cs, ⟨r1, r2, r3⟩, hq⟩ := hc j _ hv
  injection r1 with r1
  have r1 : [Value.int .u8 (p.1.toNat : Int), .slice B m c'] = cs := by simpa using congrArg Array.toList r1
  subst r1
  exact ⟨_, ⟨[.int .u8 (p.1.toNat : Int)], [.slice B m c'], rfl, KB_R _ _ _ _, B, m, c', rfl, hm, hS.all KB_flat (by decide)⟩, hq⟩
theorem PR.rd2 (h : PR e base G w v ps) : ∃ vs A c, v = .slice A ps.length c ∧ ps.length ≤ c ∧ Sl (KRN 2) 0 w.heap.size w A ps.length vs ∧ PData G w vs ps := by
  obtain ⟨⟨vs, hM, hD⟩, _, _⟩ := h
  have q := hM.slF (KRN_flat 2) 0 (fun _ _ => Nat.zero_le _)
  obtain ⟨A, c, e1, h1, hs⟩ := q
  have hl := hD.len
  rw [hl] at e1 h1 hs
  exact ⟨vs, A, c, e1, h1, hs, hD⟩
theorem KRN2 {a b : Value} {lo hi : Nat} {w : World} {cs : List Value} (h : (KRN 2).R lo hi w (.agg #[a, b]) cs) : cs = [a, b] := by
  have h1 : Value.agg #[a, b] = .agg cs.toArray := h.1
  injection h1 with h1
  have := congrArg Array.toList h1
  simpa using this.symm
theorem reps1 {w : World} {a b : Value} (ha : a.oneCell' = true) (hb : b.oneCell' = true) : RepsV (KRN 2) w [.agg #[a, b]] [.agg #[a, b]] :=
  ⟨⟨[a, b], rfl, rfl, rfl, fun u hu => by simp at hu; rcases hu with rfl | rfl <;> assumption⟩, trivial⟩
/-- Pieces that came in, as values and what they hold. -/
theorem Sl.pieces {lo hi : Nat} {A : Option Addr} {n : Nat} (h : Sl KPc lo hi w A n ps) : ∃ vs, Sl (KRN 2) lo hi w A n vs ∧ PData (fun k => lo ≤ k ∧ k < hi) w vs ps := by
  have key : ∀ (ps : List PCE) (off : Nat), (∀ j p, ps[j]? = some p → ∃ B m c, m ≤ c ∧ Sl KB lo hi w B m p.2 ∧ ∀ ad, A = some ad → w.cell? (ad.add (off + j * 2)) = some (.int .u8 (p.1.toNat : Int)) ∧ w.cell? (ad.add (off + j * 2 + 1)) = some (.slice B m c)) →
      ∃ vs : List Value, PData (fun k => lo ≤ k ∧ k < hi) w vs ps ∧ (∀ j v, vs[j]? = some v → ∃ a b, v = .agg #[a, b] ∧ a.oneCell' = true ∧ b.oneCell' = true ∧ ∀ ad, A = some ad → w.cell? (ad.add (off + j * 2)) = some a ∧ w.cell? (ad.add (off + j * 2 + 1)) = some b) := by
    intro ps
    induction ps with
    | nil => intro off _; exact ⟨[], trivial, fun j v hv => by simp at hv⟩
    | cons p ps ih =>
      intro off hq
      obtain ⟨B, m, c, h1, h2, h3⟩ := hq 0 p rfl
      obtain ⟨vs, hr, hv⟩ := ih (off + 2) fun j y hy => by
        obtain ⟨B, m, c, g1, g2, g3⟩ := hq (j + 1) y (by simpa using hy)
        exact ⟨B, m, c, g1, g2, fun ad e => by have := g3 ad e; rwa [show off + (j + 1) * 2 = off + 2 + j * 2 by omega] at this⟩
      refine ⟨.agg #[.int .u8 (p.1.toNat : Int), .slice B m c] :: vs, ⟨⟨B, m, c, lo, hi, rfl, h1, fun _ a b => ⟨a, b⟩, h2⟩, hr⟩, fun j v hj => ?_⟩
      cases j with
      | zero =>
        simp only [List.getElem?_cons_zero, Option.some.injEq] at hj
        subst hj
        exact ⟨_, _, rfl, rfl, rfl, h3⟩
      | succ j =>
        simp only [List.getElem?_cons_succ] at hj
        obtain ⟨a, b, g1, g2, g3, g4⟩ := hv j v hj
        exact ⟨a, b, g1, g2, g3, fun ad e => by have := g4 ad e; rwa [show off + 2 + j * 2 = off + (j + 1) * 2 by omega] at this⟩
  obtain ⟨vs, hr, hv⟩ := key ps 0 fun j p hp => by
    obtain ⟨ad, cs, e1, ⟨a, b, rfl, ⟨rfl, _⟩, ⟨B, m, c, rfl, h1, h2⟩⟩, hq⟩ := h.get j p hp
    refine ⟨B, m, c, h1, h2, fun ad' e' => ?_⟩
    rw [e1] at e'
    cases e'
    have q0 := hq 0 _ rfl
    have q1 := hq 1 _ rfl
    have hz : KPc.sz = 2 := rfl
    rw [hz] at q0 q1
    exact ⟨by simpa using q0, by simpa using q1⟩
  refine ⟨vs, ⟨hr.len.trans h.len, h.bound, fun hn => ?_⟩, hr⟩
  obtain ⟨ad, e1, h1, h2, _⟩ := h.at_ hn
  refine ⟨ad, e1, h1, h2, fun j v hj => ?_⟩
  obtain ⟨a, b, g1, g2, g3, g4⟩ := hv j v hj
  subst g1
  have g := g4 ad e1
  rw [Nat.zero_add] at g
  refine ⟨[a, b], ⟨rfl, rfl, fun u hu => by simp at hu; rcases hu with rfl | rfl <;> assumption⟩, fun i u hu => ?_⟩
  have hz : (KRN 2).sz = 2 := rfl
  rw [hz]
  match i, hu with
  | 0, hu => simp at hu; subst hu; exact g.1
  | 1, hu => simp at hu; subst hu; exact g.2
end
section
variable {P : Program} {ρ : Operand → Value} {e base bytes : Nat} {G : Nat → Prop} {w : World} {v : Value} {ps : List PCE} {dst : Option Tmp} {ty : TypeId} {pos : String} {aft : Array Edge} {g : Option (Nat × Bool)}
/-- 'append(v, p)'. -/
theorem PR.appE {T : TypeId} {s x : Operand} {k : UInt8} {bs : List UInt8} {A B : Option Addr} {n c lo hi lo2 hi2 m c2 : Nat} (hR : PR e base G w v ps) (hT : P.underlying T = some (.slice e)) (hI : ElemInfo P e 2 bytes) (hs : ρ s = v) (hx : ρ x = .slice B m c2)
    (hL : Sl (KRN 2) lo2 hi2 w B m [.agg #[.int .u8 (k.toNat : Int), .slice A n c]]) (hnc : n ≤ c) (hG : ∀ k, lo ≤ k → k < hi → G k) (hS : Sl KB lo hi w A n bs) (hmax : (ps.length + 1) * bytes ≤ 140737488355328) :
    DoesE P ⟨dst, .call ⟨.builtin .append, #[s, x], #[T, T]⟩, ty, pos, aft, g⟩ ρ w fun v' w' => PR e base G w' v' (ps ++ [(k, bs)]) ∧ Ext (fun k => base ≤ k ∧ ¬ G k) w w' := by
  obtain ⟨⟨vs, hM, hD⟩, hg, hb⟩ := hR
  have hl := hD.len
  refine (X.appE (K := KRN 2) (S := fun k => base ≤ k ∧ ¬ G k) (KRN_flat 2) hT hI hs hx hM hL (by rw [hl]; exact hmax) (fun k hk => ⟨by omega, fun hq => by have := hg k hq; omega⟩)).mono fun v' w' ⟨h1, h2⟩ => ⟨⟨⟨_, h1, ?_⟩, fun k hk => Nat.lt_of_lt_of_le (hg k hk) h2.size, Nat.le_trans hb h2.size⟩, h2⟩
  exact (hD.app (us := [.agg #[.int .u8 (k.toNat : Int), .slice A n c]]) (qs := [(k, bs)]) ⟨⟨A, n, c, lo, hi, rfl, hnc, hG, hS⟩, trivial⟩).move (fun _ h => h) fun k hk hlt => h2.keep k hlt fun h => h.2 hk
end
end Go.Proofs.Ytgfficbkajcdpaa.X
