/- Rows cut, and their cursors. -/
import Derived.Test.YtgfficbkajcdpaaMergeP
import Derived.Test.YtgfficbkajcdpaaProg
namespace Go.Proofs.Ytgfficbkajcdpaa
open Go Go.Proofs.Ytgfficbkajcdpaa.X
set_option linter.unusedVariables false
set_option linter.unusedSimpArgs false
theorem ERw : ElemInfo Try.prog 24 1 24 := ElemInfo.of (z := .slice none 0 0) (by kernel_rfl) rfl rfl rfl
theorem EIf : ElemInfo Try.prog 33 1 16 := ElemInfo.of (z := .nilIface) (by kernel_rfl) rfl rfl rfl
theorem rows_snoc {lo hi : Nat} {w : World} : ∀ {vs : List Value} {ls : List (List TH)} {A : Option Addr} {n c : Nat} {l : List TH}, SlRows KTh lo hi w vs ls → n ≤ c → Sl KTh lo hi w A n l → SlRows KTh lo hi w (vs ++ [.slice A n c]) (ls ++ [l])
  | [], [], _, _, _, _, _, h1, h2 => ⟨⟨_, _, _, rfl, h1, h2⟩, trivial⟩
  | _ :: _, _ :: _, _, _, _, _, h, h1, h2 => ⟨h.1, rows_snoc h.2 h1 h2⟩
  | [], _ :: _, _, _, _, _, h, _, _ => h.elim
  | _ :: _, [], _, _, _, _, h, _, _ => h.elim
theorem getV {vs : List Value} {n : Nat} (i : Nat) (h : vs.length = n) (hi : i < n) : ∃ v, vs[i]? = some v := ⟨vs[i]'(by omega), List.getElem?_eq_getElem (by omega)⟩
-- f12 "pedigree/pedigreelaw09.cut" params [22] results [22] -> [(ResultVar.tmp 2)] nfree 0 ntmps 24 names ["l
set_option maxHeartbeats 4000000 in
set_option maxRecDepth 100000 in
theorem cut_c {lo hi lo2 hi2 : Nat} {A : Option Addr} {n c : Nat} {vs : List Value} {ls : List (List TH)} (w : World) (hs : Sl KR1 lo hi w A n vs) (hr : SlRows KTh lo2 hi2 w vs ls) (hhi2 : hi2 ≤ w.heap.size) : Ret Try.prog 12 #[.slice A n c] w fun r w' => ∃ us qs A' c', r = .slice A' us.length c' ∧ us.length ≤ c' ∧ Sl KR1 0 w'.heap.size w' A' us.length us ∧ SlRows KTh lo2 hi2 w' us qs ∧ us.length = us.length ∧ us.length ≤ 6 ∧ (∀ l ∈ qs, l.length ≤ 30) ∧ Keep w w' := by
  have hl := hs.len
  have hrl := hr.len
  refine X.enter Try.func12 rfl Try.ntmps12 rfl ?_
  refine X.seq ?_
  refine X.region ?_
  refine X.opw X.wN rfl (X.assign rfl) ?_
  refine X.opsEnd ?_
  refine X.seq ?_
  refine X.region ?_
  refine X.opw X.wN rfl (X.assign rfl) ?_
  refine X.opsEnd ?_
  refine X.seq ?_
  refine X.seq ?_
  refine X.region ?_
  refine X.opw X.wN rfl (X.assign rfl) ?_
  refine X.opsEnd ?_
  refine X.block ?_
  -- LOOP live: 0=l, 3=out*, 4=i*
  refine X.loopL (σ := Nat × Value × List Value × List (List TH)) (fun s => [(0, .slice A n c), (3, s.2.1), (4, .int .i64 (s.1 : Int))]) (fun s w' => s.1 ≤ n ∧ s.1 ≤ 6 ∧ s.2.2.1.length = s.1 ∧ (∀ l ∈ s.2.2.2, l.length ≤ 30) ∧ Mine KR1 24 (fun k => w.heap.size ≤ k) 0 0 w' s.2.1 s.2.2.1 ∧ SlRows KTh lo2 hi2 w' s.2.2.1 s.2.2.2 ∧ Keep w w') (fun s => n - s.1) (0, _, [], []) ⟨rfl, rfl, rfl, trivial⟩ ⟨Nat.zero_le _, Nat.zero_le _, rfl, fun l h => by simp at h, Mine.nil _ _ _ _ _ _, trivial, (Keep.refl _)⟩ ?_
  rintro ⟨i, v, us, qs⟩ b0 wl ⟨hi, hi6, hul, hqs, hM0, hrw, hk⟩ hback
  dsimp only
  simp only at hi hi6 hul hqs hM0 hrw
  have hk' := hk.size
  refine X.seq ?_
  refine X.seq ?_
  refine X.region ?_
  refine X.opw X.wN rfl (X.move (v := .int .i64 _) rfl) ?_
  refine X.opw X.wN rfl (X.move (v := .slice _ _ _) rfl) ?_
  refine X.opw X.wN rfl (X.lenSl Try.underlying22 rfl) ?_
  refine X.opP X.wN rfl rfl (X.lss rfl rfl) (fun h8 => ?_) (fun h8 => ?_)
  · refine X.opw X.wN rfl (X.move (v := .bool true) rfl) ?_
    refine X.opw (X.wG rfl rfl rfl) rfl (X.move (v := .int .i64 _) rfl) ?_
    refine X.opP (X.wG rfl rfl rfl) rfl rfl (X.lss rfl rfl) (fun h11 => ?_) (fun h11 => ?_)
    · obtain ⟨vi, hvi⟩ := getV i hl (by omega)
      obtain ⟨li, Ai, ni, ci, hli, rfl, hnci, hsi⟩ := hr.get hvi
      refine X.opw X.wN rfl (X.pickT (v := .bool true) rfl rfl) ?_
      refine X.opsEnd ?_
      refine X.condT rfl ?_
      refine X.skip ?_
      refine X.seq ?_
      refine X.block ?_
      refine X.region ?_
      refine X.opw X.wN rfl (X.move rfl) ?_
      refine X.opw X.wN rfl (X.move (v := .slice _ _ _) rfl) ?_
      refine X.opw X.wN rfl (X.move (v := .int .i64 _) rfl) ?_
      refine X.opw X.wN rfl (X.idxS (hs.keep hk) Try.underlying22 Try.sizeOf24 rfl rfl ⟨by omega, by omega⟩) ?_
      refine X.opw X.wN rfl (X.loadS Try.isAgg24 (hs.keep hk) hvi rfl (fun _ h => by rw [h.1]; rfl)) ?_
      refine X.opE X.wN rfl (X.callE (short_c _ (hsi.keep hk) (by omega)) Try.call19 rfl rfl) ?_
      rintro _ w1 ⟨m1, rfl, hmc1, hm31, hs1, hk1⟩
      have hk1' := hk1.size
      refine X.opE X.wN rfl (X.litKF KR1_flat (K := KR1) (xs := [Operand.tmp 20]) (vs := [.slice Ai m1 ci]) (ys := [.slice Ai m1 ci]) Try.underlying22 Try.sizeOf24 Try.zeroValue24 rfl rfl rfl rfl rfl (reps_1 rfl rfl)) ?_
      rintro _ w2 ⟨rfl, hs2, hB2, hk2, hz2⟩
      refine X.opE X.wN rfl (X.appE (K := KR1) (S := fun k => w.heap.size ≤ k) KR1_flat Try.underlying22 ERw rfl rfl (hM0.keep (hk1.trans hk2)) hs2 (by (try simp only [List.length_append, List.length_cons, List.length_nil, List.length_take, List.length_drop, List.length_map, List.length_range]); omega) (by intros; (try simp only [] at *); omega)) ?_
      rintro v3 w3 ⟨hM3, hx3⟩
      have hx3' := hx3.size
      refine X.opw X.wN rfl (X.assign rfl) ?_
      refine X.opsEnd ?_
      refine X.inBlock ?_
      refine X.region ?_
      refine X.opw X.wN rfl (X.move (v := .int .i64 _) rfl) ?_
      refine X.opw X.wN rfl (X.add rfl rfl (X.w_i64 (by omega))) ?_
      refine X.opw X.wN rfl (X.assign (v := .int .i64 _) rfl) ?_
      refine X.opsEnd ?_
      refine hback (i + 1, _, us ++ [.slice Ai m1 ci], qs ++ [li.take 30]) _ _ ⟨rfl, rfl, rfl, trivial⟩ ⟨by dsimp only; omega, by dsimp only; omega, by dsimp only; rw [List.length_append, hul]; rfl, fun l h => (List.mem_append.1 h).elim (hqs l) (fun h => by rw [List.mem_singleton.1 h, List.length_take]; omega), hM3, rows_snoc (SlRows.ext hx3 (by intro k h1 h2; (try simp only []); omega) (SlRows.keep hk2 (SlRows.keep hk1 hrw))) (by omega) ((hs1.keep hk2).ext hx3 (by intros; (try simp only []); omega)), (((hk.trans hk1).trans hk2).step hx3 (by intros; (try simp only [] at *); omega))⟩ (by dsimp only; omega)
    · refine X.opw X.wN rfl (X.pickT (v := .bool false) rfl rfl) ?_
      refine X.opsEnd ?_
      refine X.condF rfl ?_
      refine X.exit rfl ?_
      refine X.seq ?_
      refine X.region ?_
      refine X.opw X.wN rfl (X.move rfl) ?_
      refine X.opw X.wN rfl (X.assign rfl) ?_
      refine X.opsEnd ?_
      refine X.ret1 Try.func12 Try.results12 rfl ?_
      obtain ⟨A', c', e, hc', hs'⟩ := hM0.slF KR1_flat 0 (fun _ _ => Nat.zero_le _)
      exact ⟨us, qs, A', c', e, hc', hs', hrw, rfl, by omega, hqs, hk⟩
  · refine X.opw X.wN rfl (X.move (v := .bool false) rfl) ?_
    refine X.opS rfl rfl rfl rfl rfl ?_
    refine X.opS rfl rfl rfl rfl rfl ?_
    refine X.opw X.wN rfl (X.pickF (v := .bool false) rfl rfl) ?_
    refine X.opsEnd ?_
    refine X.condF rfl ?_
    refine X.exit rfl ?_
    refine X.seq ?_
    refine X.region ?_
    refine X.opw X.wN rfl (X.move rfl) ?_
    refine X.opw X.wN rfl (X.assign rfl) ?_
    refine X.opsEnd ?_
    refine X.ret1 Try.func12 Try.results12 rfl ?_
    obtain ⟨A', c', e, hc', hs'⟩ := hM0.slF KR1_flat 0 (fun _ _ => Nat.zero_le _)
    exact ⟨us, qs, A', c', e, hc', hs', hrw, rfl, by omega, hqs, hk⟩
-- f18 "pedigree/pedigreelaw09.cursors" params [22] results [36] -> [(ResultVar.tmp 2)] nfree 0 ntmps 20 names
set_option maxHeartbeats 4000000 in
set_option maxRecDepth 100000 in
theorem cursors_c {lo hi lo2 hi2 : Nat} {A : Option Addr} {n c : Nat} {vs : List Value} {ls : List (List TH)} (w : World) (hs : Sl KR1 lo hi w A n vs) (hr : SlRows KTh lo2 hi2 w vs ls) (hn : n ≤ 1000) (hhi2 : hi2 ≤ w.heap.size) (hls : ∀ l ∈ ls, l.length ≤ 30) : Ret Try.prog 18 #[.slice A n c] w fun r w' => ∃ (cs : List Value) (A' : Option Addr) (c' : Nat) (Tj : Nat → Nat → Prop), r = .slice A' n c' ∧ n ≤ c' ∧ Sl KR1 0 w'.heap.size w' A' n cs ∧ (∀ j, j < n → ∀ k, Tj j k → w.heap.size ≤ k ∧ k < w'.heap.size) ∧ (∀ i j, i < n → j < n → i ≠ j → ∀ k, Tj i k → ¬ Tj j k) ∧ (∀ (j : Nat) y, cs[j]? = some y → CV w.heap.size (Tj j) y (LL ls j) w') ∧ Keep w w' := by
  have hl := hs.len
  have hrl := hr.len
  refine X.enter Try.func18 rfl Try.ntmps18 rfl ?_
  refine X.seq ?_
  refine X.region ?_
  refine X.opw X.wN rfl (X.assign rfl) ?_
  refine X.opsEnd ?_
  refine X.seq ?_
  refine X.region ?_
  refine X.opw X.wN rfl (X.assign rfl) ?_
  refine X.opsEnd ?_
  refine X.seq ?_
  refine X.seq ?_
  refine X.region ?_
  refine X.opw X.wN rfl (X.assign rfl) ?_
  refine X.opsEnd ?_
  refine X.block ?_
  -- LOOP live: 0=l, 3=out*, 4=i*
  refine X.loopL (σ := Nat × Value × List Value × List (Nat × Nat)) (fun s => [(0, .slice A n c), (3, s.2.1), (4, .int .i64 (s.1 : Int))]) (fun s w' => s.1 ≤ n ∧ s.2.2.1.length = s.1 ∧ s.2.2.2.length = s.1 ∧ Mine KR1 33 (fun k => w.heap.size ≤ k ∧ ∀ p, p ∈ s.2.2.2 → ¬ (p.1 ≤ k ∧ k < p.2)) 0 0 w' s.2.1 s.2.2.1 ∧ (∀ (j : Nat) y (p : Nat × Nat), s.2.2.1[j]? = some y → s.2.2.2[j]? = some p → CV w.heap.size (fun k => p.1 ≤ k ∧ k < p.2) y (LL ls j) w') ∧ (∀ p, p ∈ s.2.2.2 → w.heap.size ≤ p.1 ∧ p.2 ≤ w'.heap.size) ∧ s.2.2.2.Pairwise (fun p q => p.2 ≤ q.1) ∧ Keep w w') (fun s => n - s.1) (0, _, [], []) ⟨rfl, rfl, rfl, trivial⟩ ⟨Nat.zero_le _, rfl, rfl, Mine.nil _ _ _ _ _ _, fun j y p h => by simp at h, fun p h => by simp at h, List.Pairwise.nil, (Keep.refl _)⟩ ?_
  rintro ⟨i, v, cs, tb⟩ b0 wl ⟨hi, hcl, htl, hM0, hcv, htb, hpw, hk⟩ hback
  dsimp only
  simp only at hi hcl htl hM0 hcv htb hpw
  have hk' := hk.size
  refine X.seq ?_
  refine X.seq ?_
  refine X.region ?_
  refine X.opw X.wN rfl (X.move (v := .int .i64 _) rfl) ?_
  refine X.opw X.wN rfl (X.move (v := .slice _ _ _) rfl) ?_
  refine X.opw X.wN rfl (X.lenSl Try.underlying22 rfl) ?_
  refine X.opP X.wN rfl rfl (X.lss rfl rfl) (fun h8 => ?_) (fun h8 => ?_)
  · obtain ⟨vi, hvi⟩ := getV i hl (by omega)
    obtain ⟨li, Ai, ni, ci, hli, rfl, hnci, hsi⟩ := hr.get hvi
    have hlen30 := hls li (List.mem_of_getElem? hli)
    have hlil := hsi.len
    refine X.opsEnd ?_
    refine X.condT rfl ?_
    refine X.skip ?_
    refine X.seq ?_
    refine X.block ?_
    refine X.region ?_
    refine X.opw X.wN rfl (X.move rfl) ?_
    refine X.opw X.wN rfl (X.move (v := .slice _ _ _) rfl) ?_
    refine X.opw X.wN rfl (X.move (v := .int .i64 _) rfl) ?_
    refine X.opw X.wN rfl (X.idxS (hs.keep hk) Try.underlying22 Try.sizeOf24 rfl rfl ⟨by omega, by omega⟩) ?_
    refine X.opw X.wN rfl (X.loadS Try.isAgg24 (hs.keep hk) hvi rfl (fun _ h => by rw [h.1]; rfl)) ?_
    refine X.opE X.wN rfl (X.callE (Of_c w.heap.size _ (hsi.keep hk) (by omega) (by omega)) Try.call20 rfl rfl) ?_
    rintro _ w1 ⟨bm1, rfl, hC1, hk1⟩
    have hk1' := hk1.size
    refine X.opE X.wN rfl (X.litKF KR1_flat (K := KR1) (xs := [Operand.tmp 16]) (vs := [.iface 84 (.pointer (some ⟨bm1, 0, none⟩))]) (ys := [.iface 84 (.pointer (some ⟨bm1, 0, none⟩))]) Try.underlying36 Try.sizeOf33 Try.zeroValue33 rfl rfl rfl rfl rfl (reps_1 rfl rfl)) ?_
    rintro _ w2 ⟨rfl, hs2, hB2, hk2, hz2⟩
    have htb2 : ∀ p, p ∈ tb ++ [(wl.heap.size, w1.heap.size)] → w.heap.size ≤ p.1 ∧ p.2 ≤ w2.heap.size := fun p hp => (List.mem_append.1 hp).elim (fun h => by have := htb p h; omega) (fun h => by rw [List.mem_singleton.1 h]; (try simp only []); omega)
    refine X.opE X.wN rfl (X.appE (K := KR1) (S := fun k => w.heap.size ≤ k ∧ ∀ p, p ∈ (tb ++ [(wl.heap.size, w1.heap.size)]) → ¬ (p.1 ≤ k ∧ k < p.2)) KR1_flat Try.underlying36 EIf rfl rfl ((hM0.mono (T := fun k => w.heap.size ≤ k ∧ ∀ p, p ∈ (tb ++ [(wl.heap.size, w1.heap.size)]) → ¬ (p.1 ≤ k ∧ k < p.2)) (fun k hk hs => ⟨hs.1, fun p hp => (List.mem_append.1 hp).elim (hs.2 p) (fun hp => by rw [List.mem_singleton.1 hp]; (try simp only []); omega)⟩)).keep (hk1.trans hk2)) hs2 (by (try simp only [List.length_singleton]); omega) (fun k hk => ⟨by omega, fun p hp h => by have := htb2 p hp; omega⟩)) ?_
    rintro v3 w3 ⟨hM3, hx3⟩
    have hx3' := hx3.size
    refine X.opw X.wN rfl (X.assign rfl) ?_
    refine X.opsEnd ?_
    refine X.inBlock ?_
    refine X.region ?_
    refine X.opw X.wN rfl (X.move (v := .int .i64 _) rfl) ?_
    refine X.opw X.wN rfl (X.add rfl rfl (X.w_i64 (by omega))) ?_
    refine X.opw X.wN rfl (X.assign (v := .int .i64 _) rfl) ?_
    refine X.opsEnd ?_
    have hcv2 : ∀ (j : Nat) y (p : Nat × Nat), (cs ++ [(.iface 84 (.pointer (some ⟨bm1, 0, none⟩)))])[j]? = some y → (tb ++ [(wl.heap.size, w1.heap.size)])[j]? = some p → CV w.heap.size (fun k => p.1 ≤ k ∧ k < p.2) y (LL ls j) w3 := by
      intro j y p hy hp
      have hpm : p ∈ tb ++ [(wl.heap.size, w1.heap.size)] := List.mem_of_getElem? hp
      have hU : ∀ k, k < w3.heap.size → (w.heap.size ≤ k ∧ ∀ p, p ∈ tb ++ [(wl.heap.size, w1.heap.size)] → ¬ (p.1 ≤ k ∧ k < p.2)) → w.heap.size ≤ k ∧ ¬ (p.1 ≤ k ∧ k < p.2) := fun k _ h => ⟨h.1, h.2 p hpm⟩
      by_cases hj : j < cs.length
      · rw [List.getElem?_append_left hj] at hy
        rw [List.getElem?_append_left (by omega)] at hp
        exact ((hcv j y p hy hp).keep (hk1.trans hk2)).ext hx3 (fun k _ h => ⟨h.1, h.2 p hpm⟩)
      · rw [List.getElem?_append_right (by omega)] at hy hp
        have h0 : j - cs.length = 0 := by
          have := (List.getElem?_eq_some_iff.1 hy).1
          simp at this; omega
        rw [h0] at hy
        rw [show j - tb.length = 0 by omega] at hp
        simp at hy hp
        have hLL : LL ls j = li := by rw [show j = i by omega, LL, List.getD_eq_getElem?_getD, hli]; rfl
        rw [← hy, ← hp, hLL]
        exact (hC1.keep hk2).ext hx3 (fun k _ h => ⟨h.1, by rw [← hp] at hpm; exact h.2 _ hpm⟩)
    have hpw2 : (tb ++ [(wl.heap.size, w1.heap.size)]).Pairwise (fun p q => p.2 ≤ q.1) := by
      rw [List.pairwise_append]
      exact ⟨hpw, List.pairwise_singleton _ _, fun p hp q hq => by rw [List.mem_singleton.1 hq]; have := htb p hp; (try simp only []); omega⟩
    refine hback (i + 1, _, cs ++ [(.iface 84 (.pointer (some ⟨bm1, 0, none⟩)))], tb ++ [(wl.heap.size, w1.heap.size)]) _ _ ⟨rfl, rfl, rfl, trivial⟩ ⟨by dsimp only; omega, by dsimp only; rw [List.length_append, hcl]; rfl, by dsimp only; rw [List.length_append, htl]; rfl, hM3, hcv2, fun p hp => by have := htb2 p hp; omega, hpw2, (((hk.trans hk1).trans hk2).step hx3 (by intros; (try simp only [] at *); omega))⟩ (by dsimp only; omega)
  · refine X.opsEnd ?_
    refine X.condF rfl ?_
    refine X.exit rfl ?_
    refine X.seq ?_
    refine X.region ?_
    refine X.opw X.wN rfl (X.move rfl) ?_
    refine X.opw X.wN rfl (X.assign rfl) ?_
    refine X.opsEnd ?_
    refine X.ret1 Try.func18 Try.results18 rfl ?_
    obtain ⟨A', c', e, hc', hs'⟩ := hM0.slF KR1_flat 0 (fun _ _ => Nat.zero_le _)
    have hin : i = n := by omega
    rw [hcl, hin] at e hc' hs'
    refine ⟨cs, A', c', fun j k => ∃ p, tb[j]? = some p ∧ p.1 ≤ k ∧ k < p.2, e, hc', hs', fun j hj k ⟨p, h1, h2⟩ => by have := htb p (List.mem_of_getElem? h1); omega, ?_, ?_, hk⟩
    · rintro i j hi hj hne k ⟨p, h1, h2⟩ ⟨q, h3, h4⟩
      obtain ⟨g1, g2⟩ := List.getElem?_eq_some_iff.1 h1
      obtain ⟨g3, g4⟩ := List.getElem?_eq_some_iff.1 h3
      have hp := List.pairwise_iff_getElem.1 hpw
      rcases Nat.lt_or_ge i j with h5 | h5
      · have := hp i j g1 g3 h5; rw [g2, g4] at this; omega
      · have := hp j i g3 g1 (by omega); rw [g2, g4] at this; omega
    · intro j y hy
      have hjl := (List.getElem?_eq_some_iff.1 hy).1
      exact (hcv j y _ hy (List.getElem?_eq_getElem (by omega))).wide fun k hk => ⟨_, List.getElem?_eq_getElem (by omega), hk⟩
end Go.Proofs.Ytgfficbkajcdpaa
