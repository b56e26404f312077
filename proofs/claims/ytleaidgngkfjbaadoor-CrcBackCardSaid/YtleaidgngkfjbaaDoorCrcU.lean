/- The pieces of bytes: scans. -/
import Derived.Test.YtleaidgngkfjbaaDoorCrcT
import Derived.Test.YtleaidgngkfjbaaDoorXPiece
namespace Go.Proofs.YtleaidgngkfjbaaDoor
open Go Go.Proofs.YtleaidgngkfjbaaDoor.X
set_option linter.unusedVariables false
set_option linter.unusedSimpArgs false

theorem EP : ElemInfo Tryd.prog 33 2 32 := ElemInfo.of (z := .agg #[.int .u8 0, .slice none 0 0]) (by kernel_rfl) rfl rfl rfl
theorem unf_ok {l : List UInt8} (h : (unframeC l).1 = 0) : ∃ n : Nat, (unframeC l).2.2.2 = (n : Int) ∧ 13 ≤ n ∧ n ≤ l.length := by
  unfold unframeC at h ⊢
  split
  · rename_i h1; rw [if_pos h1] at h; simp at h
  · rename_i h1
    rw [if_neg h1] at h
    split
    · rename_i h2; rw [if_pos h2] at h; simp at h
    · rename_i h2
      rw [if_neg h2] at h
      split
      · rename_i h3; rw [if_pos h3] at h; simp at h
      · rename_i h3
        rw [if_neg h3] at h
        split
        · rename_i h4; rw [if_pos h4] at h; exact absurd h h4
        · exact ⟨headN l + 13, by simp, by omega, by omega⟩
theorem unf_no {l : List UInt8} (h : (unframeC l).1 ≠ 0) : (unframeC l).2 = (0, [], 0) := by
  unfold unframeC at h ⊢
  split
  · rfl
  · rename_i h1
    rw [if_neg h1] at h
    split
    · rfl
    · rename_i h2
      rw [if_neg h2] at h
      split
      · rfl
      · rename_i h3
        rw [if_neg h3] at h
        split
        · rfl
        · rename_i h4; rw [if_neg h4] at h; exact absurd rfl h
def scanC (l : List UInt8) : List PCE × Nat :=
  if h : (unframeC l).1 = 0 then
    (((unframeC l).2.1, (unframeC l).2.2.1) :: (scanC (l.drop (unframeC l).2.2.2.toNat)).1, (unframeC l).2.2.2.toNat + (scanC (l.drop (unframeC l).2.2.2.toNat)).2)
  else ([], 0)
termination_by l.length
decreasing_by all_goals (obtain ⟨n, h1, h2, h3⟩ := unf_ok h; rw [List.length_drop, h1, Int.toNat_natCast]; omega)
theorem scan_no {l : List UInt8} (h : (unframeC l).1 ≠ 0) : scanC l = ([], 0) := by rw [scanC, dif_neg h]
theorem scan_ok {l : List UInt8} (h : (unframeC l).1 = 0) {n : Nat} (hn : (unframeC l).2.2.2 = (n : Int)) : scanC l = (((unframeC l).2.1, (unframeC l).2.2.1) :: (scanC (l.drop n)).1, n + (scanC (l.drop n)).2) := by
  rw [scanC, dif_pos h, hn, Int.toNat_natCast]
/-- What stands behind the first pieces. -/
def Behind (l : List UInt8) (at_ : Nat) (ps : List PCE) : Prop := scanC l = (ps ++ (scanC (l.drop at_)).1, at_ + (scanC (l.drop at_)).2) ∧ at_ ≤ l.length ∧ ps.length ≤ at_
theorem behind_0 (l : List UInt8) : Behind l 0 [] := ⟨by simp, Nat.zero_le _, Nat.le_refl _⟩
theorem behind_end {l : List UInt8} {a : Nat} {ps : List PCE} (h : Behind l a ps) (he : (unframeC (l.drop a)).1 ≠ 0) : scanC l = (ps, a) := by
  rw [h.1, scan_no he]; simp
theorem behind_next {l : List UInt8} {a : Nat} {ps : List PCE} (h : Behind l a ps) (he : (unframeC (l.drop a)).1 = 0) {n : Nat} (hn : (unframeC (l.drop a)).2.2.2 = (n : Int)) : Behind l (a + n) (ps ++ [((unframeC (l.drop a)).2.1, (unframeC (l.drop a)).2.2.1)]) := by
  obtain ⟨n', h1, h2, h3⟩ := unf_ok he
  rw [hn] at h1
  obtain rfl : n = n' := by omega
  rw [List.length_drop] at h3
  obtain ⟨h4, h5, h6⟩ := h
  refine ⟨?_, by omega, by simp; omega⟩
  rw [h4, scan_ok he hn, List.drop_drop]
  simp [Nat.add_assoc]
/-- The first piece, its bytes in blocks of its own. -/
theorem fresh3t {w : World} {u : Int × UInt8 × List UInt8 × Int} (r : Value) (w' : World) (h : ∃ v, r = .tuple #[.agg #[.int .u8 (u.2.1.toNat : Int), v], .int .i64 u.2.2.2, .int .i64 u.1] ∧ Fresh KB 5 w w' v u.2.2.1) : ∃ A c, r = .tuple #[.agg #[.int .u8 (u.2.1.toNat : Int), .slice A u.2.2.1.length c], .int .i64 u.2.2.2, .int .i64 u.1] ∧ u.2.2.1.length ≤ c ∧ Sl KB w.heap.size w'.heap.size w' A u.2.2.1.length u.2.2.1 ∧ Keep w w' := by
  obtain ⟨v, h1, h2, h3⟩ := h
  have q := (h2.flat KB_flat (lo' := w.heap.size) (hi' := w'.heap.size)).sl (fun k hk hs => ⟨hs, hk⟩)
  obtain ⟨A, c, rfl, hc, hs⟩ := q
  exact ⟨A, c, h1, hc, hs, h3⟩
-- f29 "pedigree/pedigreeref04.Scan" params [22] results [51, 3] -> [(ResultVar.tmp 2), (ResultVar.tmp 3)] nfr
set_option maxHeartbeats 4000000 in
set_option maxRecDepth 100000 in
theorem RScan_c {lo hi : Nat} {A : Option Addr} {n c : Nat} {l : List UInt8} (w : World) (hs : Sl KB lo hi w A n l) (hhi : hi ≤ w.heap.size) (hnc : n ≤ c) (hn : n ≤ 1000000) : Ret Tryd.prog 29 #[.slice A n c] w fun r w' => ∃ v G, r = .tuple #[v, .int .i64 ((scanC l).2 : Int)] ∧ PR 33 w.heap.size G w' v (scanC l).1 ∧ Keep w w' := by
  have hl := hs.len
  refine X.enter Tryd.func29 rfl Tryd.ntmps29 rfl ?_
  refine X.seq ?_
  refine X.region ?_
  refine X.opw X.wN rfl (X.assign rfl) ?_
  refine X.opw X.wN rfl (X.assign rfl) ?_
  refine X.opsEnd ?_
  refine X.seq ?_
  refine X.region ?_
  refine X.opw X.wN rfl (X.assign rfl) ?_
  refine X.opsEnd ?_
  refine X.seq ?_
  refine X.region ?_
  refine X.opw X.wN rfl (X.assign rfl) ?_
  refine X.opsEnd ?_
  refine X.block ?_
  -- LOOP live: 0=b, 4=out*, 5=at*
  refine X.loopL (σ := Nat × Value × List PCE × (Nat → Prop)) (fun s => [(0, .slice A n c), (4, s.2.1), (5, .int .i64 (s.1 : Int))]) (fun s w' => Behind l s.1 s.2.2.1 ∧ PR 33 w.heap.size s.2.2.2 w' s.2.1 s.2.2.1 ∧ Keep w w') (fun s => n - s.1) (0, _, [], fun _ => False) ⟨rfl, rfl, rfl, trivial⟩ ⟨behind_0 l, PR.nil _ _ _ (by omega), (Keep.refl _)⟩ ?_
  rintro ⟨at_, v, ps, G⟩ b0 wl ⟨hb, hP, hk⟩ hback
  dsimp only
  simp only at hb hP
  have hk' := hk.size
  obtain ⟨hb1, hb2, hb3⟩ := id hb
  refine X.block ?_
  refine X.seq ?_
  refine X.region ?_
  refine X.opw X.wN rfl (X.move (v := .slice _ _ _) rfl) ?_
  refine X.opw X.wN rfl (X.move (v := .int .i64 _) rfl) ?_
  refine X.opw X.wN rfl (X.cutL Tryd.underlying22 Tryd.sizeOf5 rfl rfl (by omega)) ?_
  refine X.opE X.wN rfl (X.callE ((RUnframe_c _ ((hs.drop at_ c (by omega) hnc).keep hk) (by omega) (by omega)).mono fresh3t) Tryd.call27 rfl rfl) ?_
  rintro _ w1 ⟨A1, c1, rfl, hc1, hs1, hk1⟩
  have hk1' := hk1.size
  refine X.opw X.wN rfl (X.move rfl) ?_
  refine X.opw X.wN rfl (X.extr rfl rfl) ?_
  refine X.opw X.wN rfl (X.extr rfl rfl) ?_
  refine X.opw X.wN rfl (X.extr rfl rfl) ?_
  refine X.opE X.wN rfl (X.allocE Tryd.zeroValue33 rfl) ?_
  rintro _ w2 ⟨rfl, hB2, hk2, hz2⟩
  refine X.opE X.wN rfl (X.storeNE Tryd.sizeOf33 hB2 rfl rfl rfl rfl (fun u hu => by simp at hu; rcases hu with rfl | rfl <;> rfl)) ?_
  rintro _ w3 ⟨hB3, hx3, hz3⟩
  refine X.opw X.wN rfl (X.assign (v := .int .i64 _) rfl) ?_
  refine X.opw X.wN rfl (X.assign (v := .int .i64 _) rfl) ?_
  refine X.opsEnd ?_
  refine X.seq ?_
  refine X.seq ?_
  refine X.region ?_
  refine X.opw X.wN rfl (X.move (v := .int .i64 _) rfl) ?_
  refine X.opP X.wN rfl rfl (X.neI rfl rfl) (fun h18 => ?_) (fun h18 => ?_)
  · refine X.opsEnd ?_
    refine X.condT rfl ?_
    refine X.seq ?_
    refine X.region ?_
    refine X.opw X.wN rfl (X.move rfl) ?_
    refine X.opw X.wN rfl (X.move (v := .int .i64 _) rfl) ?_
    refine X.opw X.wN rfl (X.assign rfl) ?_
    refine X.opw X.wN rfl (X.assign (v := .int .i64 _) rfl) ?_
    refine X.opsEnd ?_
    refine X.ret2 (v2 := (.int .i64 _)) Tryd.func29 Tryd.results29 rfl rfl ?_
    rw [behind_end hb h18]
    exact ⟨_, _, rfl, hP.keep ((hk1.trans hk2).step hx3 (by intros; (try simp only [] at *); omega)), (((hk.trans hk1).trans hk2).step hx3 (by intros; (try simp only [] at *); omega))⟩
  · obtain ⟨m, hm1, hm2, hm3⟩ := unf_ok (Decidable.not_not.1 h18)
    rw [List.length_drop, hl] at hm3
    refine X.opsEnd ?_
    refine X.condF rfl ?_
    refine X.skip ?_
    refine X.seq ?_
    refine X.region ?_
    refine X.opw X.wN rfl (X.move rfl) ?_
    refine X.opw X.wN rfl (X.loadNB Tryd.isAgg33 Tryd.sizeOf33 hB3 rfl rfl rfl) ?_
    refine X.opE X.wN rfl (X.litKE (K := (KRN 2)) (xs := [Operand.tmp 22]) (vs := [.agg #[.int .u8 (((unframeC (l.drop at_)).2.1).toNat : Int), .slice A1 (unframeC (l.drop at_)).2.2.1.length c1]]) (ys := [.agg #[.int .u8 (((unframeC (l.drop at_)).2.1).toNat : Int), .slice A1 (unframeC (l.drop at_)).2.2.1.length c1]]) Tryd.underlying51 Tryd.sizeOf33 Tryd.zeroValue33 rfl rfl rfl rfl rfl (reps1 rfl rfl)) ?_
    rintro _ w4 ⟨rfl, hs4, hB4, hk4, hz4⟩
    refine X.opE X.wN rfl (X.PR.appE (lo := wl.heap.size) (hi := w1.heap.size) ((hP.widen hk1 (H := fun k => wl.heap.size ≤ k ∧ k < w1.heap.size) (by intro k h; exact ⟨.inl h.1, h.2⟩)).keep ((hk2.step hx3 (by intros; (try simp only [] at *); omega)).trans hk4)) Tryd.underlying51 EP rfl rfl hs4 hc1 (fun k a b => .inr ⟨a, b⟩) (hs1.keep ((hk2.step hx3 (by intros; (try simp only [] at *); omega)).trans hk4)) (by (try simp only []); omega)) ?_
    rintro v5 w5 ⟨hP5, hx5⟩
    have hx5' := hx5.size
    refine X.opw X.wN rfl (X.assign rfl) ?_
    refine X.opsEnd ?_
    refine X.region ?_
    refine X.opw X.wN rfl (X.move (v := .int .i64 _) rfl) ?_
    refine X.opw X.wN rfl (X.move (v := .int .i64 _) rfl) ?_
    refine X.opw X.wN rfl (X.add (c := ((at_ + m : Nat) : Int)) rfl rfl (by rw [hm1, X.w_i64 (by omega)]; omega)) ?_
    refine X.opw X.wN rfl (X.assign (v := .int .i64 _) rfl) ?_
    refine X.opsEnd ?_
    refine X.inBlock ?_
    refine hback (at_ + m, _, _, _) _ _ ⟨rfl, rfl, rfl, trivial⟩ ⟨behind_next hb (Decidable.not_not.1 h18) hm1, hP5, (((((hk.trans hk1).trans hk2).step hx3 (by intros; (try simp only [] at *); omega)).trans hk4).step hx5 (by intros; (try simp only [] at *); omega))⟩ (by dsimp only; omega)
end Go.Proofs.YtleaidgngkfjbaaDoor
