/- The step of a merge. -/
import Derived.Test.YtgfficbkajcdpaaMergeE
import Derived.Test.YtgfficbkajcdpaaProg
namespace Go.Proofs.Ytgfficbkajcdpaa
open Go Go.Proofs.Ytgfficbkajcdpaa.X
set_option linter.unusedVariables false
set_option linter.unusedSimpArgs false
/-- Which blocks the heads and their cursors have. -/
structure HSet (B n : Nat) (hb : Nat → Nat) (Tj : Nat → Nat → Prop) (m : Nat) : Prop where
  bT : ∀ j, j < n → ∀ k, Tj j k → B ≤ k ∧ k < m
  bH : ∀ j, j < n → B ≤ hb j ∧ hb j < m
  tH : ∀ j, j < n → ¬ Tj j (hb j)
  dis : ∀ i j, i < n → j < n → i ≠ j → ∀ k, (Tj i k ∨ k = hb i) → ¬ (Tj j k ∨ k = hb j)
def UU (n : Nat) (hb : Nat → Nat) (Tj : Nat → Nat → Prop) : Nat → Prop := fun k => ∃ j, j < n ∧ (Tj j k ∨ k = hb j)
section
variable {B n m : Nat} {hb : Nat → Nat} {Tj : Nat → Nat → Prop} {L : Nat → List TH} {w wl wa wb : World}
theorem HSet.hU (h : HSet B n hb Tj m) : ∀ k, UU n hb Tj k → B ≤ k ∧ k < m := by
  rintro k ⟨j, hj, hk | hk⟩
  · exact h.bT j hj k hk
  · rw [hk]; exact h.bH j hj
theorem HSet.mono (h : HSet B n hb Tj m) {m' : Nat} (hm : m ≤ m') : HSet B n hb Tj m' :=
  ⟨fun j hj k hk => by have := h.bT j hj k hk; omega, fun j hj => by have := h.bH j hj; omega, h.tH, h.dis⟩
theorem heads_next {j : Nat} {x : TH} (HS : HSet B n hb Tj m) (hBm : B ≤ m) (hm : m ≤ wl.heap.size) (h1 : ∀ i, i < j → ∃ x, HdT B (Tj i) (hb i) (L i) x wl) (h2 : ∀ i, j ≤ i → i < n → Hd B (Tj i) (hb i) (L i) wl) (hj : j < n)
    (hH : HdT B (Tj j) (hb j) (L j) x wa) (x1 : Ext (fun k => Tj j k ∨ k = hb j) wl wa) (x2 : Ext (fun k => m ≤ k) wa wb) : (∀ i, i < j + 1 → ∃ x, HdT B (Tj i) (hb i) (L i) x wb) ∧ (∀ i, j + 1 ≤ i → i < n → Hd B (Tj i) (hb i) (L i) wb) := by
  have hU : ∀ i, i < n → ∀ k, m ≤ k → B ≤ k ∧ ¬ Tj i k ∧ k ≠ hb i := fun i hi k hk => ⟨by omega, fun h => by have := HS.bT i hi k h; omega, fun h => by have := HS.bH i hi; omega⟩
  have hV : ∀ i, i < n → i ≠ j → ∀ k, (Tj j k ∨ k = hb j) → B ≤ k ∧ ¬ Tj i k ∧ k ≠ hb i := fun i hi hne k hk => by
    have := HS.dis j i hj hi (fun e => hne e.symm) k hk
    exact ⟨(HS.hU k ⟨j, hj, hk⟩).1, fun h => this (.inl h), fun h => this (.inr h)⟩
  refine ⟨fun i hi => ?_, fun i hi hn => ?_⟩
  · by_cases e : i = j
    · subst e; exact ⟨x, hH.ext x2 fun k _ hk => hU i hj k hk⟩
    · obtain ⟨y, hy⟩ := h1 i (by omega)
      exact ⟨y, (hy.ext x1 fun k _ hk => hV i (by omega) e k hk).ext x2 fun k _ hk => hU i (by omega) k hk⟩
  · exact ((h2 i (by omega) hn).ext x1 fun k _ hk => hV i hn (by omega) k hk).ext x2 fun k _ hk => hU i hn k hk
theorem heads_pass {i : Nat} {x : TH} {l : List TH} (HS : HSet B n hb Tj m) (hBm : B ≤ m) (h1 : ∀ i, i < n → ∃ x, HdT B (Tj i) (hb i) (L i) x wl) (hi : i < n) (hl : L i = x :: l)
    (hH : Hd B (Tj i) (hb i) l wa) (x1 : Ext (fun k => k = hb i) wl wa) (x2 : Ext (fun k => m ≤ k) wa wb) : ∀ j, j < n → Hd B (Tj j) (hb j) (updL L i j) wb := by
  have hU : ∀ i, i < n → ∀ k, m ≤ k → B ≤ k ∧ ¬ Tj i k ∧ k ≠ hb i := fun i hi k hk => ⟨by omega, fun h => by have := HS.bT i hi k h; omega, fun h => by have := HS.bH i hi; omega⟩
  intro j hj
  refine Hd.ext ?_ x2 fun k _ hk => hU j hj k hk
  by_cases e : j = i
  · subst e; rw [updL, if_pos rfl, hl]; exact hH
  · rw [updL, if_neg e]
    refine Hd.ext (show Hd B (Tj j) (hb j) (L j) wl from .inr (h1 j hj)) x1 fun k _ hk => ?_
    have := HS.dis i j hi hj (fun h => e h.symm) k (.inr hk)
    exact ⟨by rw [show k = hb i from hk]; exact (HS.bH i hi).1, fun h => this (.inl h), fun h => this (.inr h)⟩
end
-- f47 "pedigree/merge.Merge[pedigree/pedigreeref09.Thing]$1" params [] results [29, 4] -> [(ResultVar.cell 2 
set_option maxHeartbeats 4000000 in
set_option maxRecDepth 100000 in
theorem Merge1_c (B n : Nat) (hb : Nat → Nat) (Tj : Nat → Nat → Prop) (L : Nat → List TH) (c0 c1 : Nat) (cv : Value) {lo hi : Nat} {A : Option Addr} {c : Nat} {vs : List Value} (w : World) (HS : HSet B n hb Tj w.heap.size) (hBw : B ≤ w.heap.size) (hn : n ≤ 1000000)
    (hsl : Sl KR1 lo hi w A n vs) (hhi : hi ≤ w.heap.size) (hvs : ∀ j, j < n → vs[j]? = some (.pointer (some ⟨hb j, 0, none⟩))) (hc0 : Blk w c0 [.slice A n c] 82) (hc1 : Blk w c1 [cv] 35) (hsep : ∀ k, UU n hb Tj k → ¬ (lo ≤ k ∧ k < hi) ∧ k ≠ c0 ∧ k ≠ c1) (hd : ∀ j, j < n → Hd B (Tj j) (hb j) (L j) w)
    (hcmp : ∀ (x y : TH) (wa : World), YC Try.prog cv [evT x, evT y] wa fun r wb => ∃ nc, r = .int .i64 nc ∧ (nc < 0 ↔ x.1 < y.1) ∧ Keep wa wb) :
    Ret Try.prog 47 #[.pointer (some ⟨c0, 0, none⟩), .pointer (some ⟨c1, 0, none⟩)] w fun r w' => r = hdV evT (0, 0) (mgC n L) ∧ Ext (UU n hb Tj) w w' ∧ (mgC n L ≠ [] → ∃ L', (mgC n L).tail = mgC n L' ∧ ∀ j, j < n → Hd B (Tj j) (hb j) (L' j) w') := by
  have hc0l := hc0.lt
  have hc1l := hc1.lt
  have hvl := hsl.len
  refine X.enter Try.func47 rfl Try.ntmps47 rfl ?_
  refine X.seq ?_
  refine X.region ?_
  refine X.opE X.wN rfl (X.allocE Try.zeroValue29 rfl) ?_
  rintro _ w1 ⟨rfl, hB1, hk1, hz1⟩
  refine X.opw X.wN rfl (X.assign rfl) ?_
  refine X.opsEnd ?_
  refine X.seq ?_
  refine X.region ?_
  refine X.opw X.wN rfl (X.assign rfl) ?_
  refine X.opsEnd ?_
  refine X.seq ?_
  refine X.seq ?_
  refine X.region ?_
  refine X.opw X.wN rfl (X.load1B Try.isAgg82 (hc0.keep hk1) rfl rfl) ?_
  refine X.opw X.wN rfl (X.lenSl Try.underlying82 rfl) ?_
  refine X.opw X.wN rfl (X.move rfl) ?_
  refine X.opsEnd ?_
  refine X.block ?_
  -- LOOP live: 1, 2=x, 3=ok*, 4=best*, 9, 10, 11*
  refine X.loopL (σ := Nat) (fun s => [(1, .pointer (some ⟨c1, 0, none⟩)), (2, .pointer (some ⟨w.heap.size, 0, none⟩)), (3, .bool (pk L s).isSome), (4, .pointer (bestP hb (pk L s))), (9, .slice A n c), (10, .int .i64 (n : Int)), (11, .int .i64 (s : Int))]) (fun s w' => s ≤ n ∧ (∀ i, i < s → ∃ x, HdT B (Tj i) (hb i) (L i) x w') ∧ (∀ i, s ≤ i → i < n → Hd B (Tj i) (hb i) (L i) w') ∧ Blk w' w.heap.size [.int .i8 (bestX (pk L s)).1, .int .i64 (bestX (pk L s)).2] 29 ∧ Sl KR1 lo hi w' A n vs ∧ Blk w' c0 [.slice A n c] 82 ∧ Blk w' c1 [cv] 35 ∧ Ext (UU n hb Tj) w w' ∧ w.heap.size < w'.heap.size) (fun s => n - s) 0 ⟨rfl, rfl, rfl, rfl, rfl, rfl, rfl, trivial⟩ ⟨by omega, fun i h => by omega, fun i _ h => (hd i h).ext hk1 (fun _ _ h => h.elim), hB1, (hsl.keep hk1), (hc0.keep hk1), (hc1.keep hk1), hk1.mono (fun _ _ h => h.elim), by omega⟩ ?_
  rintro j b0 wl ⟨hj0, hd1, hd2, hB2, hS, hB0, hB1, hE, hwl⟩ hback
  refine X.seq ?_
  refine X.region ?_
  refine X.opP X.wN rfl rfl (X.lss rfl rfl) (fun h12 => ?_) (fun h12 => ?_)
  · have hj : j < n := by omega
    have hvj := hvs j hj
    refine X.opsEnd ?_
    refine X.seq ?_
    refine X.condT rfl ?_
    refine X.skip ?_
    refine X.seq ?_
    refine X.block ?_
    refine X.seq ?_
    refine X.region ?_
    refine X.opw X.wN rfl (X.idxS hS Try.underlying82 Try.sizeOf85 rfl rfl ⟨by omega, by omega⟩) ?_
    refine X.opw X.wN rfl (X.loadS Try.isAgg85 hS hvj rfl (fun _ h => by rw [h.1]; rfl)) ?_
    refine X.opw X.wN rfl (X.assign rfl) ?_
    refine X.opsEnd ?_
    refine X.seq ?_
    refine X.region ?_
    refine X.opw X.wN rfl (X.move rfl) ?_
    refine X.opE X.wN rfl (X.callE (look_c _ (hd2 j (Nat.le_refl _) hj) (by omega) (HS.bH j hj).1 (HS.tH j hj) (fun k hk => by have := HS.bT j hj k hk; omega)) Try.call48 rfl rfl) ?_
    rintro _ w2 ⟨x2, rfl, hH2, hx2⟩
    have hx2' := hx2.size
    refine X.opw X.wN rfl (X.move rfl) ?_
    refine X.opw X.wN rfl (X.extr rfl rfl) ?_
    refine X.opw X.wN rfl (X.extr rfl rfl) ?_
    refine X.opE X.wN rfl (X.allocE Try.zeroValue29 rfl) ?_
    rintro _ w3 ⟨rfl, hB3, hk3, hz3⟩
    refine X.opE X.wN rfl (X.storeNE Try.sizeOf29 hB3 rfl rfl rfl rfl (fun u hu => by simp at hu; rcases hu with rfl | rfl <;> rfl)) ?_
    rintro _ w4 ⟨hB4, hx4, hz4⟩
    refine X.opw X.wN rfl (X.assign (v := .bool _) rfl) ?_
    refine X.opsEnd ?_
    refine X.seq ?_
    refine X.region ?_
    refine X.opw X.wN rfl (X.move (v := .bool _) rfl) ?_
    refine X.opw X.wN rfl (X.move (v := .bool _) rfl) ?_
    refine X.forkO 21 rfl (fun h21 => ?_) (fun h21 => ?_)
    · obtain ⟨ys, hLj⟩ : ∃ ys, L j = x2 :: ys := by
        cases hq : L j with
        | nil => rw [hq] at h21; simp at h21
        | cons y ys => rw [hq] at hH2; exact ⟨ys, by rw [hH2.head]⟩
      refine X.opw (X.wG rfl rfl rfl) rfl (X.move rfl) ?_
      refine X.opB (X.wG rfl rfl rfl) rfl rfl (X.eqPtrN Try.underlying85 rfl rfl) (fun h23 => ?_) (fun h23 => ?_)
      · refine X.opw (X.wG rfl rfl rfl) rfl (X.move (v := .bool true) rfl) ?_
        refine X.opS rfl rfl rfl rfl rfl ?_
        refine X.opS rfl rfl rfl rfl rfl ?_
        refine X.opS rfl rfl rfl rfl rfl ?_
        refine X.opS rfl rfl rfl rfl rfl ?_
        refine X.opS rfl rfl rfl rfl rfl ?_
        refine X.opw (X.wG rfl rfl rfl) rfl (X.pickT (v := .bool true) rfl rfl) ?_
        refine X.opw X.wN rfl (X.pickT (v := .bool true) rfl rfl) ?_
        refine X.opsEnd ?_
        refine X.condT rfl ?_
        refine X.regionD (fun k => k = w.heap.size) 3 (by kernel_rfl) (by kernel_rfl) (fun w5 hk5 hz5 => ?_)
        refine X.dTake 0 rfl (by kernel_rfl) (by kernel_rfl) (by kernel_rfl) (X.dwN rfl) (fun w' hk' => X.move rfl) ?_
        refine X.dTake 1 rfl (by kernel_rfl) (by kernel_rfl) (by kernel_rfl) (X.dwN rfl) (fun w' hk' => X.loadNB Try.isAgg29 Try.sizeOf29 ((hB4.keep hk5).ext hk' (by intros; (try simp only []); omega)) rfl rfl rfl) ?_
        refine X.dTake 2 rfl (by kernel_rfl) (by kernel_rfl) (by kernel_rfl) (X.dwN rfl) (fun w' hk' => X.assign rfl) ?_
        refine X.dE (i := 3) (by kernel_rfl) rfl (X.dwN rfl) (X.storeNE Try.sizeOf29 ((hB2.ext hx2 (fun h => by have := HS.hU _ (⟨j, hj, h⟩); omega)).keep ((hk3.step hx4 (by intros; (try simp only [] at *); omega)).trans hk5)) rfl rfl rfl rfl (fun u hu => by simp at hu; rcases hu with rfl | rfl <;> rfl)) (fun _ _ _ h => absurd h (by decide)) ?_
        rintro _ w6 ⟨hB6, hx6, hz6⟩
        refine X.dStep (i := 4) (by kernel_rfl) rfl (X.dwN rfl) (X.assign rfl) (fun h => absurd h (by decide)) ?_
        refine X.dEnd (by kernel_rfl) ?_
        refine X.inBlock ?_
        refine X.region ?_
        refine X.opw X.wN rfl (X.add rfl rfl (X.w_i64 (by omega))) ?_
        refine X.opw X.wN rfl (X.move (v := .int .i64 _) rfl) ?_
        refine X.opsEnd ?_
        have hpk := pk_new hLj (.inl (by cases hq : pk L j with
            | none => rfl
            | some q => rw [hq] at h23; simp [bestP] at h23))
        refine hback (j + 1) _ _ ⟨(by first | rfl | (rw [hpk]; rfl)), (by first | rfl | (rw [hpk]; rfl)), (by first | rfl | (rw [hpk]; rfl)), (by first | rfl | (rw [hpk]; rfl)), (by first | rfl | (rw [hpk]; rfl)), (by first | rfl | (rw [hpk]; rfl)), (by first | rfl | (rw [hpk]; rfl)), trivial⟩ ⟨by omega, (heads_next HS hBw (by omega) hd1 hd2 hj hH2 hx2 (Ext.andThen (Ext.andThen (Ext.andThen (Ext.andThen (Ext.refl (fun k => w.heap.size ≤ k) _) hk3 (by intro k h1 h2; first | exact (h2 : False).elim | omega | ((try simp only [] at *); omega))) hx4 (by intro k h1 h2; first | exact (h2 : False).elim | omega | ((try simp only [] at *); omega))) hk5 (by intro k h1 h2; first | exact (h2 : False).elim | omega | ((try simp only [] at *); omega))) hx6 (by intro k h1 h2; first | exact (h2 : False).elim | omega | ((try simp only [] at *); omega)))).1, (heads_next HS hBw (by omega) hd1 hd2 hj hH2 hx2 (Ext.andThen (Ext.andThen (Ext.andThen (Ext.andThen (Ext.refl (fun k => w.heap.size ≤ k) _) hk3 (by intro k h1 h2; first | exact (h2 : False).elim | omega | ((try simp only [] at *); omega))) hx4 (by intro k h1 h2; first | exact (h2 : False).elim | omega | ((try simp only [] at *); omega))) hk5 (by intro k h1 h2; first | exact (h2 : False).elim | omega | ((try simp only [] at *); omega))) hx6 (by intro k h1 h2; first | exact (h2 : False).elim | omega | ((try simp only [] at *); omega)))).2, (by rw [hpk]; exact hB6), (((hS.ext hx2 (fun k h1 h2 h => (hsep k (⟨j, hj, h⟩)).1 ⟨h1, h2⟩)).keep ((hk3.step hx4 (by intros; (try simp only [] at *); omega)).trans hk5)).ext hx6 (by intros; (try simp only []); omega)), (((hB0.ext hx2 (fun h => (hsep _ (⟨j, hj, h⟩)).2.1 rfl)).keep ((hk3.step hx4 (by intros; (try simp only [] at *); omega)).trans hk5)).ext hx6 (by intros; (try simp only []); omega)), (((hB1.ext hx2 (fun h => (hsep _ (⟨j, hj, h⟩)).2.2 rfl)).keep ((hk3.step hx4 (by intros; (try simp only [] at *); omega)).trans hk5)).ext hx6 (by intros; (try simp only []); omega)), (Ext.andThen (Ext.andThen (Ext.andThen (Ext.andThen (Ext.andThen hE hx2 (by intro k h1 h2; first | exact (h2 : False).elim | exact ⟨j, hj, h2⟩ | exact ⟨i, hin, .inr h2⟩ | (exfalso; (try simp only [] at *); omega))) hk3 (by intro k h1 h2; first | exact (h2 : False).elim | exact ⟨j, hj, h2⟩ | exact ⟨i, hin, .inr h2⟩ | (exfalso; (try simp only [] at *); omega))) hx4 (by intro k h1 h2; first | exact (h2 : False).elim | exact ⟨j, hj, h2⟩ | exact ⟨i, hin, .inr h2⟩ | (exfalso; (try simp only [] at *); omega))) hk5 (by intro k h1 h2; first | exact (h2 : False).elim | exact ⟨j, hj, h2⟩ | exact ⟨i, hin, .inr h2⟩ | (exfalso; (try simp only [] at *); omega))) hx6 (by intro k h1 h2; first | exact (h2 : False).elim | exact ⟨j, hj, h2⟩ | exact ⟨i, hin, .inr h2⟩ | (exfalso; (try simp only [] at *); omega))), by omega⟩ (by omega)
      · refine X.opw (X.wG rfl rfl rfl) rfl (X.move (v := .bool false) rfl) ?_
        refine X.opw (X.wG rfl rfl rfl) rfl (X.load1B Try.isAgg35 ((hB1.ext hx2 (fun h => (hsep _ (⟨j, hj, h⟩)).2.2 rfl)).keep (hk3.step hx4 (by intros; (try simp only [] at *); omega))) rfl rfl) ?_
        refine X.opw (X.wG rfl rfl rfl) rfl (X.loadNB Try.isAgg29 Try.sizeOf29 hB4 rfl rfl rfl) ?_
        refine X.opw (X.wG rfl rfl rfl) rfl (X.loadNB Try.isAgg29 Try.sizeOf29 ((hB2.ext hx2 (fun h => by have := HS.hU _ (⟨j, hj, h⟩); omega)).keep (hk3.step hx4 (by intros; (try simp only [] at *); omega))) rfl rfl rfl) ?_
        refine X.opE (X.wG rfl rfl rfl) rfl ((hcmp x2 (bestX (pk L j)) _) _ _ _ _ _ _ _ _ _ rfl rfl) ?_
        rintro _ w7 ⟨nc7, rfl, hlt7, hk7⟩
        have hk7' := hk7.size
        refine X.opP (X.wG rfl rfl rfl) rfl rfl (X.lss rfl rfl) (fun h29 => ?_) (fun h29 => ?_)
        · 
          refine X.opw (X.wG rfl rfl rfl) rfl (X.pickF (v := .bool true) rfl rfl) ?_
          refine X.opw X.wN rfl (X.pickT (v := .bool true) rfl rfl) ?_
          refine X.opsEnd ?_
          refine X.condT rfl ?_
          refine X.regionD (fun k => k = w.heap.size) 3 (by kernel_rfl) (by kernel_rfl) (fun w8 hk8 hz8 => ?_)
          refine X.dTake 0 rfl (by kernel_rfl) (by kernel_rfl) (by kernel_rfl) (X.dwN rfl) (fun w' hk' => X.move rfl) ?_
          refine X.dTake 1 rfl (by kernel_rfl) (by kernel_rfl) (by kernel_rfl) (X.dwN rfl) (fun w' hk' => X.loadNB Try.isAgg29 Try.sizeOf29 ((hB4.keep (hk7.trans hk8)).ext hk' (by intros; (try simp only []); omega)) rfl rfl rfl) ?_
          refine X.dTake 2 rfl (by kernel_rfl) (by kernel_rfl) (by kernel_rfl) (X.dwN rfl) (fun w' hk' => X.assign rfl) ?_
          refine X.dE (i := 3) (by kernel_rfl) rfl (X.dwN rfl) (X.storeNE Try.sizeOf29 ((hB2.ext hx2 (fun h => by have := HS.hU _ (⟨j, hj, h⟩); omega)).keep (((hk3.step hx4 (by intros; (try simp only [] at *); omega)).trans hk7).trans hk8)) rfl rfl rfl rfl (fun u hu => by simp at hu; rcases hu with rfl | rfl <;> rfl)) (fun _ _ _ h => absurd h (by decide)) ?_
          rintro _ w9 ⟨hB9, hx9, hz9⟩
          refine X.dStep (i := 4) (by kernel_rfl) rfl (X.dwN rfl) (X.assign rfl) (fun h => absurd h (by decide)) ?_
          refine X.dEnd (by kernel_rfl) ?_
          refine X.inBlock ?_
          refine X.region ?_
          refine X.opw X.wN rfl (X.add rfl rfl (X.w_i64 (by omega))) ?_
          refine X.opw X.wN rfl (X.move (v := .int .i64 _) rfl) ?_
          refine X.opsEnd ?_
          have hpk := pk_new hLj (.inr (hlt7.1 h29))
          refine hback (j + 1) _ _ ⟨(by first | rfl | (rw [hpk]; rfl)), (by first | rfl | (rw [hpk]; rfl)), (by first | rfl | (rw [hpk]; rfl)), (by first | rfl | (rw [hpk]; rfl)), (by first | rfl | (rw [hpk]; rfl)), (by first | rfl | (rw [hpk]; rfl)), (by first | rfl | (rw [hpk]; rfl)), trivial⟩ ⟨by omega, (heads_next HS hBw (by omega) hd1 hd2 hj hH2 hx2 (Ext.andThen (Ext.andThen (Ext.andThen (Ext.andThen (Ext.andThen (Ext.refl (fun k => w.heap.size ≤ k) _) hk3 (by intro k h1 h2; first | exact (h2 : False).elim | omega | ((try simp only [] at *); omega))) hx4 (by intro k h1 h2; first | exact (h2 : False).elim | omega | ((try simp only [] at *); omega))) hk7 (by intro k h1 h2; first | exact (h2 : False).elim | omega | ((try simp only [] at *); omega))) hk8 (by intro k h1 h2; first | exact (h2 : False).elim | omega | ((try simp only [] at *); omega))) hx9 (by intro k h1 h2; first | exact (h2 : False).elim | omega | ((try simp only [] at *); omega)))).1, (heads_next HS hBw (by omega) hd1 hd2 hj hH2 hx2 (Ext.andThen (Ext.andThen (Ext.andThen (Ext.andThen (Ext.andThen (Ext.refl (fun k => w.heap.size ≤ k) _) hk3 (by intro k h1 h2; first | exact (h2 : False).elim | omega | ((try simp only [] at *); omega))) hx4 (by intro k h1 h2; first | exact (h2 : False).elim | omega | ((try simp only [] at *); omega))) hk7 (by intro k h1 h2; first | exact (h2 : False).elim | omega | ((try simp only [] at *); omega))) hk8 (by intro k h1 h2; first | exact (h2 : False).elim | omega | ((try simp only [] at *); omega))) hx9 (by intro k h1 h2; first | exact (h2 : False).elim | omega | ((try simp only [] at *); omega)))).2, (by rw [hpk]; exact hB9), (((hS.ext hx2 (fun k h1 h2 h => (hsep k (⟨j, hj, h⟩)).1 ⟨h1, h2⟩)).keep (((hk3.step hx4 (by intros; (try simp only [] at *); omega)).trans hk7).trans hk8)).ext hx9 (by intros; (try simp only []); omega)), (((hB0.ext hx2 (fun h => (hsep _ (⟨j, hj, h⟩)).2.1 rfl)).keep (((hk3.step hx4 (by intros; (try simp only [] at *); omega)).trans hk7).trans hk8)).ext hx9 (by intros; (try simp only []); omega)), (((hB1.ext hx2 (fun h => (hsep _ (⟨j, hj, h⟩)).2.2 rfl)).keep (((hk3.step hx4 (by intros; (try simp only [] at *); omega)).trans hk7).trans hk8)).ext hx9 (by intros; (try simp only []); omega)), (Ext.andThen (Ext.andThen (Ext.andThen (Ext.andThen (Ext.andThen (Ext.andThen hE hx2 (by intro k h1 h2; first | exact (h2 : False).elim | exact ⟨j, hj, h2⟩ | exact ⟨i, hin, .inr h2⟩ | (exfalso; (try simp only [] at *); omega))) hk3 (by intro k h1 h2; first | exact (h2 : False).elim | exact ⟨j, hj, h2⟩ | exact ⟨i, hin, .inr h2⟩ | (exfalso; (try simp only [] at *); omega))) hx4 (by intro k h1 h2; first | exact (h2 : False).elim | exact ⟨j, hj, h2⟩ | exact ⟨i, hin, .inr h2⟩ | (exfalso; (try simp only [] at *); omega))) hk7 (by intro k h1 h2; first | exact (h2 : False).elim | exact ⟨j, hj, h2⟩ | exact ⟨i, hin, .inr h2⟩ | (exfalso; (try simp only [] at *); omega))) hk8 (by intro k h1 h2; first | exact (h2 : False).elim | exact ⟨j, hj, h2⟩ | exact ⟨i, hin, .inr h2⟩ | (exfalso; (try simp only [] at *); omega))) hx9 (by intro k h1 h2; first | exact (h2 : False).elim | exact ⟨j, hj, h2⟩ | exact ⟨i, hin, .inr h2⟩ | (exfalso; (try simp only [] at *); omega))), by omega⟩ (by omega)
        · 
          refine X.opw (X.wG rfl rfl rfl) rfl (X.pickF (v := .bool false) rfl rfl) ?_
          refine X.opw X.wN rfl (X.pickT (v := .bool false) rfl rfl) ?_
          refine X.opsEnd ?_
          refine X.condF rfl ?_
          refine X.skip ?_
          refine X.inBlock ?_
          refine X.region ?_
          refine X.opw X.wN rfl (X.add rfl rfl (X.w_i64 (by omega))) ?_
          refine X.opw X.wN rfl (X.move (v := .int .i64 _) rfl) ?_
          refine X.opsEnd ?_
          have hpk := pk_old hLj (fun hq => by rw [hq] at h23; simp [bestP] at h23) (fun h => h29 (hlt7.2 h))
          refine hback (j + 1) _ _ ⟨(by first | rfl | (rw [hpk]; rfl)), (by first | rfl | (rw [hpk]; rfl)), (by first | rfl | (rw [hpk]; rfl)), (by first | rfl | (rw [hpk]; rfl)), (by first | rfl | (rw [hpk]; rfl)), (by first | rfl | (rw [hpk]; rfl)), (by first | rfl | (rw [hpk]; rfl)), trivial⟩ ⟨by omega, (heads_next HS hBw (by omega) hd1 hd2 hj hH2 hx2 (Ext.andThen (Ext.andThen (Ext.andThen (Ext.refl (fun k => w.heap.size ≤ k) _) hk3 (by intro k h1 h2; first | exact (h2 : False).elim | omega | ((try simp only [] at *); omega))) hx4 (by intro k h1 h2; first | exact (h2 : False).elim | omega | ((try simp only [] at *); omega))) hk7 (by intro k h1 h2; first | exact (h2 : False).elim | omega | ((try simp only [] at *); omega)))).1, (heads_next HS hBw (by omega) hd1 hd2 hj hH2 hx2 (Ext.andThen (Ext.andThen (Ext.andThen (Ext.refl (fun k => w.heap.size ≤ k) _) hk3 (by intro k h1 h2; first | exact (h2 : False).elim | omega | ((try simp only [] at *); omega))) hx4 (by intro k h1 h2; first | exact (h2 : False).elim | omega | ((try simp only [] at *); omega))) hk7 (by intro k h1 h2; first | exact (h2 : False).elim | omega | ((try simp only [] at *); omega)))).2, (by rw [hpk]; exact ((hB2.ext hx2 (fun h => by have := HS.hU _ (⟨j, hj, h⟩); omega)).keep ((hk3.step hx4 (by intros; (try simp only [] at *); omega)).trans hk7))), ((hS.ext hx2 (fun k h1 h2 h => (hsep k (⟨j, hj, h⟩)).1 ⟨h1, h2⟩)).keep ((hk3.step hx4 (by intros; (try simp only [] at *); omega)).trans hk7)), ((hB0.ext hx2 (fun h => (hsep _ (⟨j, hj, h⟩)).2.1 rfl)).keep ((hk3.step hx4 (by intros; (try simp only [] at *); omega)).trans hk7)), ((hB1.ext hx2 (fun h => (hsep _ (⟨j, hj, h⟩)).2.2 rfl)).keep ((hk3.step hx4 (by intros; (try simp only [] at *); omega)).trans hk7)), (Ext.andThen (Ext.andThen (Ext.andThen (Ext.andThen hE hx2 (by intro k h1 h2; first | exact (h2 : False).elim | exact ⟨j, hj, h2⟩ | exact ⟨i, hin, .inr h2⟩ | (exfalso; (try simp only [] at *); omega))) hk3 (by intro k h1 h2; first | exact (h2 : False).elim | exact ⟨j, hj, h2⟩ | exact ⟨i, hin, .inr h2⟩ | (exfalso; (try simp only [] at *); omega))) hx4 (by intro k h1 h2; first | exact (h2 : False).elim | exact ⟨j, hj, h2⟩ | exact ⟨i, hin, .inr h2⟩ | (exfalso; (try simp only [] at *); omega))) hk7 (by intro k h1 h2; first | exact (h2 : False).elim | exact ⟨j, hj, h2⟩ | exact ⟨i, hin, .inr h2⟩ | (exfalso; (try simp only [] at *); omega))), by omega⟩ (by omega)
    · have hLj : L j = [] := by
        cases hq : L j with
        | nil => rfl
        | cons y ys => rw [hq] at h21; simp at h21
      refine X.opS rfl rfl rfl rfl rfl ?_
      refine X.opS rfl rfl rfl rfl rfl ?_
      refine X.opS rfl rfl rfl rfl rfl ?_
      refine X.opU rfl rfl rfl rfl ?_
      refine X.opU rfl rfl rfl rfl ?_
      refine X.opU rfl rfl rfl rfl ?_
      refine X.opU rfl rfl rfl rfl ?_
      refine X.opU rfl rfl rfl rfl ?_
      refine X.opS rfl rfl rfl rfl rfl ?_
      refine X.opw X.wN rfl (X.pickF (v := .bool false) rfl rfl) ?_
      refine X.opsEnd ?_
      refine X.condF rfl ?_
      refine X.skip ?_
      refine X.inBlock ?_
      refine X.region ?_
      refine X.opw X.wN rfl (X.add rfl rfl (X.w_i64 (by omega))) ?_
      refine X.opw X.wN rfl (X.move (v := .int .i64 _) rfl) ?_
      refine X.opsEnd ?_
      have hpk := pk_nil hLj
      refine hback (j + 1) _ _ ⟨(by first | rfl | (rw [hpk]; rfl)), (by first | rfl | (rw [hpk]; rfl)), (by first | rfl | (rw [hpk]; rfl)), (by first | rfl | (rw [hpk]; rfl)), (by first | rfl | (rw [hpk]; rfl)), (by first | rfl | (rw [hpk]; rfl)), (by first | rfl | (rw [hpk]; rfl)), trivial⟩ ⟨by omega, (heads_next HS hBw (by omega) hd1 hd2 hj hH2 hx2 (Ext.andThen (Ext.andThen (Ext.refl (fun k => w.heap.size ≤ k) _) hk3 (by intro k h1 h2; first | exact (h2 : False).elim | omega | ((try simp only [] at *); omega))) hx4 (by intro k h1 h2; first | exact (h2 : False).elim | omega | ((try simp only [] at *); omega)))).1, (heads_next HS hBw (by omega) hd1 hd2 hj hH2 hx2 (Ext.andThen (Ext.andThen (Ext.refl (fun k => w.heap.size ≤ k) _) hk3 (by intro k h1 h2; first | exact (h2 : False).elim | omega | ((try simp only [] at *); omega))) hx4 (by intro k h1 h2; first | exact (h2 : False).elim | omega | ((try simp only [] at *); omega)))).2, (by rw [hpk]; exact ((hB2.ext hx2 (fun h => by have := HS.hU _ (⟨j, hj, h⟩); omega)).keep (hk3.step hx4 (by intros; (try simp only [] at *); omega)))), ((hS.ext hx2 (fun k h1 h2 h => (hsep k (⟨j, hj, h⟩)).1 ⟨h1, h2⟩)).keep (hk3.step hx4 (by intros; (try simp only [] at *); omega))), ((hB0.ext hx2 (fun h => (hsep _ (⟨j, hj, h⟩)).2.1 rfl)).keep (hk3.step hx4 (by intros; (try simp only [] at *); omega))), ((hB1.ext hx2 (fun h => (hsep _ (⟨j, hj, h⟩)).2.2 rfl)).keep (hk3.step hx4 (by intros; (try simp only [] at *); omega))), (Ext.andThen (Ext.andThen (Ext.andThen hE hx2 (by intro k h1 h2; first | exact (h2 : False).elim | exact ⟨j, hj, h2⟩ | exact ⟨i, hin, .inr h2⟩ | (exfalso; (try simp only [] at *); omega))) hk3 (by intro k h1 h2; first | exact (h2 : False).elim | exact ⟨j, hj, h2⟩ | exact ⟨i, hin, .inr h2⟩ | (exfalso; (try simp only [] at *); omega))) hx4 (by intro k h1 h2; first | exact (h2 : False).elim | exact ⟨j, hj, h2⟩ | exact ⟨i, hin, .inr h2⟩ | (exfalso; (try simp only [] at *); omega))), by omega⟩ (by omega)
  · have hjn : n = j := by omega
    subst hjn
    refine X.opsEnd ?_
    refine X.seq ?_
    refine X.condF rfl ?_
    refine X.exit rfl ?_
    refine X.seq ?_
    refine X.seq ?_
    refine X.region ?_
    refine X.opw X.wN rfl (X.move rfl) ?_
    refine X.opB X.wN rfl rfl (X.nePtrN Try.underlying85 rfl rfl) (fun h36 => ?_) (fun h36 => ?_)
    · obtain ⟨⟨i, x⟩, hpn⟩ : ∃ q, pk L n = some q := by
        cases hq : pk L n with
        | none => rw [hq] at h36; simp [bestP] at h36
        | some q => exact ⟨q, rfl⟩
      obtain ⟨hin, li, hLi⟩ := pk_some hpn
      obtain ⟨x', hHi⟩ := hd1 i hin
      rw [hLi] at hHi
      rw [hpn]
      refine X.opsEnd ?_
      refine X.condT rfl ?_
      refine X.region ?_
      refine X.opw X.wN rfl (X.move rfl) ?_
      refine X.opE X.wN rfl (X.callE (pass_c _ hHi (HS.bH i hin).1 (HS.tH i hin)) Try.call49 rfl rfl) ?_
      rintro _ w10 ⟨rfl, hH10, hx10⟩
      have hx10' := hx10.size
      refine X.opsEnd ?_
      refine X.seq ?_
      refine X.region ?_
      refine X.opw X.wN rfl (X.loadNB Try.isAgg29 Try.sizeOf29 (hB2.ext hx10 (fun h => by have := HS.hU _ (⟨i, hin, .inr h⟩); omega)) rfl rfl rfl) ?_
      refine X.opw X.wN rfl (X.move (v := .bool _) rfl) ?_
      refine X.opE X.wN rfl (X.storeNE Try.sizeOf29 (hB2.ext hx10 (fun h => by have := HS.hU _ (⟨i, hin, .inr h⟩); omega)) rfl rfl rfl rfl (fun u hu => by simp at hu; rcases hu with rfl | rfl <;> rfl)) ?_
      rintro _ w11 ⟨hB11, hx11, hz11⟩
      refine X.opw X.wN rfl (X.assign (v := .bool _) rfl) ?_
      refine X.opsEnd ?_
      refine X.ret_unw (X.unwR2 Try.func47 Try.results47 (X.ResOk.cell rfl (X.lvN Try.isAgg29 Try.sizeOf29 hB11 rfl)) (show X.ResOk _ _ _ (.tmp 3) (.bool _) from rfl) ?_)
      rw [mgC_some hpn, hpn]
      exact ⟨rfl, (Ext.andThen (Ext.andThen hE hx10 (by intro k h1 h2; first | exact (h2 : False).elim | exact ⟨j, hj, h2⟩ | exact ⟨i, hin, .inr h2⟩ | (exfalso; (try simp only [] at *); omega))) hx11 (by intro k h1 h2; first | exact (h2 : False).elim | exact ⟨j, hj, h2⟩ | exact ⟨i, hin, .inr h2⟩ | (exfalso; (try simp only [] at *); omega))), fun _ => ⟨updL L i, rfl, heads_pass HS hBw hd1 hin hLi hH10 hx10 (Ext.andThen (Ext.refl (fun k => w.heap.size ≤ k) _) hx11 (by intro k h1 h2; first | exact (h2 : False).elim | omega | ((try simp only [] at *); omega)))⟩⟩
    · have hpn : pk L n = none := by
        cases hq : pk L n with
        | none => rfl
        | some q => rw [hq] at h36; simp [bestP] at h36
      refine X.opsEnd ?_
      refine X.condF rfl ?_
      refine X.skip ?_
      refine X.seq ?_
      refine X.region ?_
      refine X.opw X.wN rfl (X.loadNB Try.isAgg29 Try.sizeOf29 hB2 rfl rfl rfl) ?_
      refine X.opw X.wN rfl (X.move (v := .bool _) rfl) ?_
      refine X.opE X.wN rfl (X.storeNE Try.sizeOf29 hB2 rfl rfl rfl rfl (fun u hu => by simp at hu; rcases hu with rfl | rfl <;> rfl)) ?_
      rintro _ w12 ⟨hB12, hx12, hz12⟩
      refine X.opw X.wN rfl (X.assign (v := .bool _) rfl) ?_
      refine X.opsEnd ?_
      refine X.ret_unw (X.unwR2 Try.func47 Try.results47 (X.ResOk.cell rfl (X.lvN Try.isAgg29 Try.sizeOf29 hB12 rfl)) (show X.ResOk _ _ _ (.tmp 3) (.bool _) from rfl) ?_)
      rw [mgC_none hpn, hpn]
      exact ⟨rfl, (Ext.andThen hE hx12 (by intro k h1 h2; first | exact (h2 : False).elim | exact ⟨j, hj, h2⟩ | exact ⟨i, hin, .inr h2⟩ | (exfalso; (try simp only [] at *); omega))), fun h => absurd rfl h⟩
end Go.Proofs.Ytgfficbkajcdpaa
