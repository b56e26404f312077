/- Merge. -/
import Derived.Test.YtgfficbkajcdpaaMergeG
import Derived.Test.YtgfficbkajcdpaaProg
namespace Go.Proofs.Ytgfficbkajcdpaa
open Go Go.Proofs.Ytgfficbkajcdpaa.X
set_option linter.unusedVariables false
set_option linter.unusedSimpArgs false
theorem Mine.range {α : Type} {K : Kd α} (hF : Flat K) {e m : Nat} {S : Nat → Prop} {w : World} {v : Value} {xs : List α} (h : Mine K e S 0 0 w v xs) (hS : ∀ k, S k → m ≤ k) (hm : m ≤ w.heap.size) : ∃ lo hi A c, (∀ k, lo ≤ k → k < hi → S k) ∧ m ≤ lo ∧ hi ≤ w.heap.size ∧ v = .slice A xs.length c ∧ xs.length ≤ c ∧ Sl K lo hi w A xs.length xs := by
  obtain ⟨b, ho, hb⟩ := h
  cases b with
  | none =>
    obtain ⟨A, c, h3, h4, h5⟩ := (ho.flat hF (lo' := w.heap.size) (hi' := w.heap.size)).sl (fun k hk => by cases hk)
    exact ⟨_, _, A, c, fun k h1 h2 => by omega, hm, Nat.le_refl _, h3, h4, h5⟩
  | some b =>
    have hlt := ho.lt b rfl
    have hSb := hb b rfl
    obtain ⟨A, c, h3, h4, h5⟩ := (ho.flat hF (lo' := b) (hi' := b + 1)).sl (fun k hk => by cases hk; omega)
    exact ⟨_, _, A, c, fun k h1 h2 => by obtain rfl : k = b := by omega
                                         exact hSb, hS b hSb, hlt, h3, h4, h5⟩
theorem nodup_at {l : List Nat} (h : l.Nodup) {i j x : Nat} (hi : l[i]? = some x) (hj : l[j]? = some x) : i = j := by
  obtain ⟨h1, h2⟩ := List.getElem?_eq_some_iff.1 hi
  obtain ⟨h3, h4⟩ := List.getElem?_eq_some_iff.1 hj
  have hp := List.pairwise_iff_getElem.1 h
  rcases Nat.lt_trichotomy i j with h5 | h5 | h5
  · exact absurd (h2.trans h4.symm) (hp i j h1 h3 h5)
  · exact h5
  · exact absurd (h4.trans h2.symm) (hp j i h3 h1 h5)
theorem heads_c2 {lo hi : Nat} {A : Option Addr} {n c : Nat} {cs : List Value} (w : World) (hs : Sl KR1 lo hi w A n cs) (hn : n ≤ 1000000) (hci : ∀ (i : Nat) y, cs[i]? = some y → IsC y) : Ret Try.prog 46 #[.slice A n c] w fun r w' => ∃ (hbs : List Nat) (l h : Nat) (A : Option Addr) (c : Nat), r = .slice A n c ∧ n ≤ c ∧ (∀ k, l ≤ k → k < h → k ∉ hbs) ∧ w.heap.size ≤ l ∧ h ≤ w'.heap.size ∧ hbs.length = n ∧ Sl KR1 l h w' A n (hbs.map ptrV) ∧ (∀ (i b : Nat), hbs[i]? = some b → ∃ cv, cs[i]? = some cv ∧ Blk w' b (hdL cv (0, 0) false false) 112) ∧ (∀ b, b ∈ hbs → w.heap.size ≤ b ∧ b < w'.heap.size) ∧ hbs.Nodup ∧ Keep w w' := by
  refine (heads_c w hs hn hci).mono ?_
  rintro r w' ⟨hbs, h1, h2, h3, h4, h5, h6⟩
  obtain ⟨l, h, A, c, g1, g2, g3, g4, g5, g6⟩ := Mine.range KR1_flat h2 (fun k hk => hk.1) h6.size
  rw [List.length_map, h1] at g4 g5 g6
  exact ⟨hbs, l, h, A, c, g4, g5, fun k a b => (g1 k a b).2, g2, g3, h1, g6, h3, h4, h5, h6⟩
theorem mg_stp {B n a b : Nat} {hb : Nat → Nat} {Tj : Nat → Nat → Prop} {L : Nat → List TH} {c0 c1 : Nat} {cv : Value} {lo hi : Nat} {A : Option Addr} {c : Nat} {vs : List Value} {w : World} (HS : HSet B n hb Tj b) (hBa : B ≤ a) (hn : n ≤ 1000000) (hbw : b ≤ w.heap.size)
    (hTa : ∀ j, j < n → ∀ k, Tj j k → a ≤ k) (hba : ∀ j, j < n → a ≤ hb j) (hlo : a ≤ lo) (hhi : hi ≤ b) (h0 : a ≤ c0 ∧ c0 < b) (h1 : a ≤ c1 ∧ c1 < b)
    (hsl : Sl KR1 lo hi w A n vs) (hvs : ∀ j, j < n → vs[j]? = some (ptrV (hb j))) (hc0 : Blk w c0 [.slice A n c] 82) (hc1 : Blk w c1 [cv] 35) (hsep : ∀ k, UU n hb Tj k → ¬ (lo ≤ k ∧ k < hi) ∧ k ≠ c0 ∧ k ≠ c1) (hd : ∀ j, j < n → Hd B (Tj j) (hb j) (L j) w)
    (hcmp : ∀ (x y : TH) (wa : World), YC Try.prog cv [evT x, evT y] wa fun r wb => ∃ nc, r = .int .i64 nc ∧ (nc < 0 ↔ x.1 < y.1) ∧ Keep wa wb) : Stp Try.prog evT (0, 0) B (fun k => a ≤ k ∧ k < b) (.func (.func 47) #[] #[ptrV c0, ptrV c1]) (mgC n L) w := by
  have hUa : ∀ k, UU n hb Tj k → a ≤ k ∧ k < b := by
    rintro k ⟨j, hj, hk⟩
    refine ⟨?_, (HS.hU k ⟨j, hj, hk⟩).2⟩
    rcases hk with hk | hk
    · exact hTa j hj k hk
    · rw [hk]; exact hba j hj
  refine ⟨fun xs w => ∃ L, xs = mgC n L ∧ b ≤ w.heap.size ∧ Sl KR1 lo hi w A n vs ∧ Blk w c0 [.slice A n c] 82 ∧ Blk w c1 [cv] 35 ∧ ∀ j, j < n → Hd B (Tj j) (hb j) (L j) w, ⟨L, rfl, hbw, hsl, hc0, hc1, hd⟩, ?_, ?_⟩
  · rintro xs w w' ⟨L, g1, g2, g3, g4, g5, g6⟩ ha
    have hz := ha.size
    exact ⟨L, g1, by omega, g3.ext ha (fun k x y z => z.2 ⟨by omega, by omega⟩), ha.blk g4 h0, ha.blk g5 h1, fun j hj => (g6 j hj).ext ha fun k _ hk => ⟨hk.1, fun h => hk.2 (hUa k ⟨j, hj, .inl h⟩), fun h => hk.2 (hUa k ⟨j, hj, .inr h⟩)⟩⟩
  · rintro xs w ⟨L, rfl, g2, g3, g4, g5, g6⟩
    refine YC.of_ret (args := []) (cap := [_, _]) ((Merge1_c B n hb Tj L c0 c1 cv w (HS.mono g2) (by omega) hn g3 (by omega) hvs g4 g5 hsep g6 hcmp).mono ?_) Try.call47
    rintro r w' ⟨rfl, hx, hn'⟩
    have hz := hx.size
    refine ⟨rfl, hx.mono fun k _ hk => hUa k hk, fun hne => ?_⟩
    obtain ⟨L', q1, q2⟩ := hn' hne
    exact ⟨L', q1, by omega, g3.ext hx (fun k x y z => (hsep k z).1 ⟨x, y⟩), g4.ext hx (fun h => (hsep _ h).2.1 rfl), g5.ext hx (fun h => (hsep _ h).2.2 rfl), q2⟩
-- f16 "pedigree/merge.Merge[pedigree/pedigreeref09.Thing]" params [35, 36] results [33] -> [(ResultVar.tmp 4)
set_option maxHeartbeats 4000000 in
set_option maxRecDepth 100000 in
theorem Merge_c {B a n : Nat} {Tj : Nat → Nat → Prop} {L : Nat → List TH} {fn : Fn} {bs ca : Array Value} {lo hi : Nat} {A : Option Addr} {c : Nat} {cs : List Value} (w : World) (hs : Sl KR1 lo hi w A n cs) (hn : n ≤ 1000000) (hBa : B ≤ a) (haw : a ≤ w.heap.size)
    (hT : ∀ j, j < n → ∀ k, Tj j k → a ≤ k ∧ k < w.heap.size) (hdis : ∀ i j, i < n → j < n → i ≠ j → ∀ k, Tj i k → ¬ Tj j k) (hcv : ∀ (j : Nat) y, cs[j]? = some y → CV B (Tj j) y (L j) w)
    (hcmp : ∀ (x y : TH) (wa : World), YC Try.prog (.func fn bs ca) [evT x, evT y] wa fun r wb => ∃ nc, r = .int .i64 nc ∧ (nc < 0 ↔ x.1 < y.1) ∧ Keep wa wb) : Ret Try.prog 16 #[.func fn bs ca, .slice A n c] w fun r w' => (∃ p, r = .iface 84 p) ∧ CV B (fun k => a ≤ k ∧ k < w'.heap.size) r (mgC n L) w' ∧ Keep w w' := by
  have hci : ∀ (i : Nat) y, cs[i]? = some y → IsC y := fun i y h => (hcv i y h).elim (fun h => .inl h.1) (fun ⟨p, h, _⟩ => .inr ⟨p, h⟩)
  refine X.enter Try.func16 rfl Try.ntmps16 rfl ?_
  refine X.seq ?_
  refine X.region ?_
  refine X.opE X.wN rfl (X.boxE rfl rfl) ?_
  rintro _ w1 ⟨rfl, hB1, hk1, hz1⟩
  refine X.opw X.wN rfl (X.assign rfl) ?_
  refine X.opsEnd ?_
  refine X.seq ?_
  refine X.seq ?_
  refine X.region ?_
  refine X.opw X.wN rfl (X.load1B Try.isAgg35 hB1 rfl rfl) ?_
  refine X.opw X.wN rfl (X.eqFn1 Try.underlying35 rfl rfl) ?_
  refine X.opsEnd ?_
  refine X.condF rfl ?_
  refine X.skip ?_
  refine X.seq ?_
  refine X.region ?_
  refine X.opw X.wN rfl (X.move (v := .slice _ _ _) rfl) ?_
  refine X.opE X.wN rfl (X.callE (heads_c2 _ (hs.keep hk1) hn hci) Try.call46 rfl rfl) ?_
  rintro _ w2 ⟨hbs, l, h, Aq, cq, rfl, hcq, hlh, hl, hh, hbl, hsq, hbk, hbb, hnd, hk2⟩
  have hk2' := hk2.size
  refine X.opE X.wN rfl (X.allocE Try.zeroValue82 rfl) ?_
  rintro _ w3 ⟨rfl, hB3, hk3, hz3⟩
  refine X.opE X.wN rfl (X.storeE Try.sizeOf82 hB3 rfl rfl rfl rfl) ?_
  rintro _ w4 ⟨hB4, hx4, hz4⟩
  refine X.opsEnd ?_
  refine X.seq ?_
  refine X.region ?_
  refine X.opw X.wN rfl (X.mkFunc rfl) ?_
  refine X.opw X.wN rfl (X.buildB (vs := [(0, .func (.func 47) #[] #[ptrV (w2.heap.size), ptrV (w.heap.size)])]) (cs := #[.func (.func 47) #[] #[ptrV (w2.heap.size), ptrV (w.heap.size)], .bool false]) rfl (by kernel_rfl)) ?_
  refine X.opE X.wN rfl (X.boxE rfl rfl) ?_
  rintro _ w5 ⟨rfl, hB5, hk5, hz5⟩
  refine X.opw X.wN rfl (X.mkIface Try.underlying84 rfl rfl) ?_
  refine X.opw X.wN rfl (X.assign rfl) ?_
  refine X.opsEnd ?_
  refine X.ret1 Try.func16 Try.results16 rfl ?_
  have hg : ∀ j, j < n → hbs[j]? = some (hbs.getD j 0) := fun j hj => by
    have := List.getElem?_eq_getElem (l := hbs) (i := j) (by omega)
    rw [this, List.getD_eq_getElem?_getD, this]; rfl
  have hgb : ∀ j, j < n → w1.heap.size ≤ hbs.getD j 0 ∧ hbs.getD j 0 < w2.heap.size := fun j hj => hbb _ (mem_at (hg j hj))
  have HS : HSet B n (fun j => hbs.getD j 0) Tj w4.heap.size := by
    refine ⟨fun j hj k hk => by have := hT j hj k hk; omega, fun j hj => by have := hgb j hj; (try simp only []); omega, fun j hj h => by have := hT j hj _ h; have := hgb j hj; (try simp only [] at *); omega, fun i j hi hj hne k h1 h2 => ?_⟩
    have gi := hgb i hi
    have gj := hgb j hj
    try simp only at h1 h2
    rcases h1 with h1 | h1 <;> rcases h2 with h2 | h2
    · exact hdis i j hi hj hne k h1 h2
    · have := hT i hi k h1; omega
    · have := hT j hj k h2; omega
    · exact hne (nodup_at hnd (by rw [hg i hi, ← h1]) (by rw [hg j hj, ← h2]))
  have hsep : ∀ k, UU n (fun j => hbs.getD j 0) Tj k → ¬ (l ≤ k ∧ k < h) ∧ k ≠ w2.heap.size ∧ k ≠ w.heap.size := by
    rintro k ⟨j, hj, h1 | h1⟩
    · have := hT j hj k h1; (try simp only [] at *); exact ⟨by omega, by omega, by omega⟩
    · have h1 : k = hbs.getD j 0 := h1
      have := hgb j hj
      refine ⟨fun hq => hlh k hq.1 hq.2 (by rw [h1]; exact mem_at (hg j hj)), by omega, by omega⟩
  refine ⟨⟨_, rfl⟩, ?_, ((((hk1.trans hk2).trans hk3).step hx4 (by intros; (try simp only [] at *); omega)).trans hk5)⟩
  refine CV.wide (cur_made (a := a) (b := w4.heap.size) (mg_stp (L := L) HS hBa hn (by omega) (fun j hj k hk => (hT j hj k hk).1) (fun j hj => by have := hgb j hj; (try simp only []); omega) (by omega) (by omega) ⟨by omega, by omega⟩ ⟨by omega, by omega⟩ ((hsq.keep ((hk3.step hx4 (by intros; (try simp only [] at *); omega)).trans hk5))) (fun j hj => by rw [List.getElem?_map, hg j hj]; rfl) (hB4.keep hk5) (hB1.keep (((hk2.trans hk3).step hx4 (by intros; (try simp only [] at *); omega)).trans hk5)) hsep (fun j hj => ?_) hcmp) hB5 (by omega) (Nat.le_refl _) (by omega)) (fun k hk => by omega)
  obtain ⟨y, hy1, hy2⟩ := hbk j _ (hg j hj)
  exact .inl ⟨y, (0, 0), ((hy2.keep ((hk3.step hx4 (by intros; (try simp only [] at *); omega)).trans hk5))), (hcv j y hy1).agree (Agree.of_keep ((((hk1.trans hk2).trans hk3).step hx4 (by intros; (try simp only [] at *); omega)).trans hk5))⟩
end Go.Proofs.Ytgfficbkajcdpaa
