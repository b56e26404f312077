/- Texts that the proof of MergeNone stands on, part 11. -/
import Derived.Test.YtgfficbkajcdpaaProg
import Derived.Test.YtgfficbkajcdpaaBunMergeNone10

namespace Go.Proofs.Ytgfficbkajcdpaa
open Go Go.Proofs.Ytgfficbkajcdpaa.X
set_option linter.unusedVariables false
set_option linter.unusedSimpArgs false
theorem updLC_mem {L : Nat → List CT} {i j : Nat} {x : CT} (h : x ∈ updLC L i j) : x ∈ L j := by
  unfold updLC at h
  split at h
  · exact List.mem_of_mem_tail h
  · exact h
theorem pkC_ok {ok : CT → Prop} {lt : CT → CT → Bool} {L : Nat → List CT} {n m : Nat} (hok : ∀ j, j < n → ∀ x, x ∈ L j → ok x) (hm : m ≤ n) (h : pkC lt L m ≠ none) : ok (bestXC (pkC lt L m)) := by
  cases hp : pkC lt L m with
  | none => exact absurd hp h
  | some q =>
    obtain ⟨i, x⟩ := q
    obtain ⟨h1, l, h2⟩ := pkC_some hp
    exact hok i (by omega) x (by rw [h2]; exact List.mem_cons_self)
section
variable {B n m : Nat} {hb : Nat → Nat} {Tj : Nat → Nat → Prop} {L : Nat → List CT} {w wl wa wb : World}
theorem cheads_next {j : Nat} {x : CT} (HS : HSet B n hb Tj m) (hBm : B ≤ m) (hm : m ≤ wl.heap.size) (h1 : ∀ i, i < j → ∃ x, HdTC B (Tj i) (hb i) (L i) x wl) (h2 : ∀ i, j ≤ i → i < n → HdC B (Tj i) (hb i) (L i) wl) (hj : j < n)
    (hH : HdTC B (Tj j) (hb j) (L j) x wa) (x1 : Ext (fun k => Tj j k ∨ k = hb j) wl wa) (x2 : Ext (fun k => m ≤ k) wa wb) : (∀ i, i < j + 1 → ∃ x, HdTC B (Tj i) (hb i) (L i) x wb) ∧ (∀ i, j + 1 ≤ i → i < n → HdC B (Tj i) (hb i) (L i) wb) := by
  have hU : ∀ i, i < n → ∀ k, m ≤ k → B ≤ k ∧ ¬ Tj i k ∧ k ≠ hb i := fun i hi k hk => ⟨by omega, fun h => by have := HS.bT i hi k h; omega, fun h => by have := HS.bH i hi; omega⟩
  have hV : ∀ i, i < n → i ≠ j → ∀ k, (Tj j k ∨ k = hb j) → B ≤ k ∧ ¬ Tj i k ∧ k ≠ hb i := fun i hi hne k hk => by
    have := HS.dis j i hj hi (fun e => hne e.symm) k hk
    exact ⟨(HS.hU k ⟨j, hj, hk⟩).1, fun h => this (.inl h), fun h => this (.inr h)⟩
  refine ⟨fun i hi => ?_, fun i hi hn => ?_⟩
  · by_cases e : i = j
    · subst e; exact ⟨x, hH.ext x2 fun k _ hk => hU i hj k hk⟩
    · obtain ⟨y, hy⟩ := h1 i (by omega)
      exact ⟨y, (hy.ext x1 fun k _ hk => hV i (by omega) e k hk).ext x2 fun k _ hk => hU i (by omega) k hk⟩
  · exact ((h2 i (by omega) hn).ext x1 fun k _ hk => hV i hn (by omega) k hk).ext x2 fun k _ hk => hU i hn k hk
theorem cheads_pass {i : Nat} {x : CT} {l : List CT} (HS : HSet B n hb Tj m) (hBm : B ≤ m) (h1 : ∀ i, i < n → ∃ x, HdTC B (Tj i) (hb i) (L i) x wl) (hi : i < n) (hl : L i = x :: l)
    (hH : HdC B (Tj i) (hb i) l wa) (x1 : Ext (fun k => k = hb i) wl wa) (x2 : Ext (fun k => m ≤ k) wa wb) : ∀ j, j < n → HdC B (Tj j) (hb j) (updLC L i j) wb := by
  have hU : ∀ i, i < n → ∀ k, m ≤ k → B ≤ k ∧ ¬ Tj i k ∧ k ≠ hb i := fun i hi k hk => ⟨by omega, fun h => by have := HS.bT i hi k h; omega, fun h => by have := HS.bH i hi; omega⟩
  intro j hj
  refine HdC.ext ?_ x2 fun k _ hk => hU j hj k hk
  by_cases e : j = i
  · subst e; rw [updLC, if_pos rfl, hl]; exact hH
  · rw [updLC, if_neg e]
    refine HdC.ext (show HdC B (Tj j) (hb j) (L j) wl from .inr (h1 j hj)) x1 fun k _ hk => ?_
    have := HS.dis i j hi hj (fun h => e h.symm) k (.inr hk)
    exact ⟨by rw [show k = hb i from hk]; exact (HS.bH i hi).1, fun h => this (.inl h), fun h => this (.inr h)⟩
end
-- f72 "pedigree/merge.Merge[pedigree/api.Counted]$1" params [] results [70, 4] -> [(ResultVar.cell 2 70), (Re
set_option maxHeartbeats 4000000 in
set_option maxRecDepth 100000 in
theorem CMerge1_c (ok : CT → Prop) (lt : CT → CT → Bool) (CW : World → Prop) (B n : Nat) (hb : Nat → Nat) (Tj : Nat → Nat → Prop) (L : Nat → List CT) (c0 c1 : Nat) (cv : Value) {lo hi : Nat} {A : Option Addr} {c : Nat} {vs : List Value} (w : World) (HS : HSet B n hb Tj w.heap.size) (hBw : B ≤ w.heap.size) (hn : n ≤ 1000000) (hCW : CW w) (hCWs : ∀ w w', CW w → Ext (fun k => B ≤ k) w w' → CW w')
    (hsl : Sl KR1 lo hi w A n vs) (hhi : hi ≤ w.heap.size) (hvs : ∀ j, j < n → vs[j]? = some (.pointer (some ⟨hb j, 0, none⟩))) (hc0 : Blk w c0 [.slice A n c] 115) (hc1 : Blk w c1 [cv] 105) (hsep : ∀ k, UU n hb Tj k → ¬ (lo ≤ k ∧ k < hi) ∧ k ≠ c0 ∧ k ≠ c1) (hd : ∀ j, j < n → HdC B (Tj j) (hb j) (L j) w)
    (hok : ∀ j, j < n → ∀ x, x ∈ L j → ok x) (hcmp : ∀ (x y : CT) (wa : World), ok x → ok y → CW wa → YC Try.prog cv [evC x, evC y] wa fun r wb => ∃ nc, r = .int .i64 nc ∧ (nc < 0 ↔ lt x y = true) ∧ Keep wa wb) :
    Ret Try.prog 72 #[.pointer (some ⟨c0, 0, none⟩), .pointer (some ⟨c1, 0, none⟩)] w fun r w' => r = hdV evC zC (mgCC lt n L) ∧ Ext (UU n hb Tj) w w' ∧ (mgCC lt n L ≠ [] → ∃ L', (mgCC lt n L).tail = mgCC lt n L' ∧ (∀ j, j < n → HdC B (Tj j) (hb j) (L' j) w') ∧ ∀ j x, x ∈ L' j → x ∈ L j) := by
  have hc0l := hc0.lt
  have hc1l := hc1.lt
  have hvl := hsl.len
  refine X.enter Try.func72 rfl Try.ntmps72 rfl ?_
  refine X.seq ?_
  refine X.region ?_
  refine X.opE X.wN rfl (X.allocE Try.zeroValue70 rfl) ?_
  rintro _ w1 ⟨rfl, hB1, hk1, hz1⟩
  refine X.opw X.wN rfl (X.assign rfl) ?_
  refine X.opsEnd ?_
  refine X.seq ?_
  refine X.region ?_
  refine X.opw X.wN rfl (X.assign rfl) ?_
  refine X.opsEnd ?_
  refine X.seq ?_
  refine X.seq ?_
  refine X.region ?_
  refine X.opw X.wN rfl (X.load1B Try.isAgg115 (hc0.keep hk1) rfl rfl) ?_
  refine X.opw X.wN rfl (X.lenSl Try.underlying115 rfl) ?_
  refine X.opw X.wN rfl (X.move rfl) ?_
  refine X.opsEnd ?_
  refine X.block ?_
  -- LOOP live: 1, 2=x, 3=ok*, 4=best*, 9, 10, 11*
  refine X.loopL (σ := Nat) (fun s => [(1, .pointer (some ⟨c1, 0, none⟩)), (2, .pointer (some ⟨w.heap.size, 0, none⟩)), (3, .bool (pkC lt L s).isSome), (4, .pointer (bestPC hb (pkC lt L s))), (9, .slice A n c), (10, .int .i64 (n : Int)), (11, .int .i64 (s : Int))]) (fun s w' => s ≤ n ∧ (∀ i, i < s → ∃ x, HdTC B (Tj i) (hb i) (L i) x w') ∧ (∀ i, s ≤ i → i < n → HdC B (Tj i) (hb i) (L i) w') ∧ Blk w' w.heap.size [.slice (bestXC (pkC lt L s)).1.1 (bestXC (pkC lt L s)).1.2.1 (bestXC (pkC lt L s)).1.2.2, .int .i64 (bestXC (pkC lt L s)).2] 70 ∧ Sl KR1 lo hi w' A n vs ∧ Blk w' c0 [.slice A n c] 115 ∧ Blk w' c1 [cv] 105 ∧ Ext (UU n hb Tj) w w' ∧ w.heap.size < w'.heap.size ∧ CW w') (fun s => n - s) 0 ⟨rfl, rfl, rfl, rfl, rfl, rfl, rfl, trivial⟩ ⟨by omega, fun i h => by omega, fun i _ h => (hd i h).ext hk1 (fun _ _ h => h.elim), hB1, (hsl.keep hk1), (hc0.keep hk1), (hc1.keep hk1), hk1.mono (fun _ _ h => h.elim), by omega, hCWs _ _ hCW (hk1.mono fun _ _ h => h.elim)⟩ ?_
  rintro j b0 wl ⟨hj0, hd1, hd2, hB2, hS, hB0, hB1, hE, hwl, hCWl⟩ hback
  refine X.seq ?_
  refine X.region ?_
  refine X.opP X.wN rfl rfl (X.lss rfl rfl) (fun h12 => ?_) (fun h12 => ?_)
  · have hj : j < n := by omega
    have hvj := hvs j hj
    refine X.opsEnd ?_
    refine X.seq ?_
    refine X.condT rfl ?_
    refine X.skip ?_
    refine X.seq ?_
    refine X.block ?_
    refine X.seq ?_
    refine X.region ?_
    refine X.opw X.wN rfl (X.idxS hS Try.underlying115 Try.sizeOf103 rfl rfl ⟨by omega, by omega⟩) ?_
    refine X.opw X.wN rfl (X.loadS Try.isAgg103 hS hvj rfl (fun _ h => by rw [h.1]; rfl)) ?_
    refine X.opw X.wN rfl (X.assign rfl) ?_
    refine X.opsEnd ?_
    refine X.seq ?_
    refine X.region ?_
    refine X.opw X.wN rfl (X.move rfl) ?_
    refine X.opE X.wN rfl (X.callE (clook_c _ (hd2 j (Nat.le_refl _) hj) (by omega) (HS.bH j hj).1 (HS.tH j hj) (fun k hk => by have := HS.bT j hj k hk; omega)) Try.call64 rfl rfl) ?_
    rintro _ w2 ⟨x2, rfl, hH2, hx2⟩
    have hx2' := hx2.size
    refine X.opw X.wN rfl (X.move rfl) ?_
    refine X.opw X.wN rfl (X.extr rfl rfl) ?_
    refine X.opw X.wN rfl (X.extr rfl rfl) ?_
    refine X.opE X.wN rfl (X.allocE Try.zeroValue70 rfl) ?_
    rintro _ w3 ⟨rfl, hB3, hk3, hz3⟩
    refine X.opE X.wN rfl (X.storeNE Try.sizeOf70 hB3 rfl rfl rfl rfl (fun u hu => by simp at hu; rcases hu with rfl | rfl <;> rfl)) ?_
    rintro _ w4 ⟨hB4, hx4, hz4⟩
    refine X.opw X.wN rfl (X.assign (v := .bool _) rfl) ?_
    refine X.opsEnd ?_
    refine X.seq ?_
    refine X.region ?_
    refine X.opw X.wN rfl (X.move (v := .bool _) rfl) ?_
    refine X.opw X.wN rfl (X.move (v := .bool _) rfl) ?_
    refine X.forkO 21 rfl (fun h21 => ?_) (fun h21 => ?_)
    · obtain ⟨ys, hLj⟩ : ∃ ys, L j = x2 :: ys := by
        cases hq : L j with
        | nil => rw [hq] at h21; simp at h21
        | cons y ys => rw [hq] at hH2; exact ⟨ys, by rw [hH2.head]⟩
      refine X.opw (X.wG rfl rfl rfl) rfl (X.move rfl) ?_
      refine X.opB (X.wG rfl rfl rfl) rfl rfl (X.eqPtrN Try.underlying103 rfl rfl) (fun h23 => ?_) (fun h23 => ?_)
      · refine X.opw (X.wG rfl rfl rfl) rfl (X.move (v := .bool true) rfl) ?_
        refine X.opS rfl rfl rfl rfl rfl ?_
        refine X.opS rfl rfl rfl rfl rfl ?_
        refine X.opS rfl rfl rfl rfl rfl ?_
        refine X.opS rfl rfl rfl rfl rfl ?_
        refine X.opS rfl rfl rfl rfl rfl ?_
        refine X.opw (X.wG rfl rfl rfl) rfl (X.pickT (v := .bool true) rfl rfl) ?_
        refine X.opw X.wN rfl (X.pickT (v := .bool true) rfl rfl) ?_
        refine X.opsEnd ?_
        refine X.condT rfl ?_
        refine X.regionD (fun k => k = w.heap.size) 3 (by kernel_rfl) (by kernel_rfl) (fun w5 hk5 hz5 => ?_)
        refine X.dTake 0 rfl (by kernel_rfl) (by kernel_rfl) (by kernel_rfl) (X.dwN rfl) (fun w' hk' => X.move rfl) ?_
        refine X.dTake 1 rfl (by kernel_rfl) (by kernel_rfl) (by kernel_rfl) (X.dwN rfl) (fun w' hk' => X.loadNB Try.isAgg70 Try.sizeOf70 ((hB4.keep hk5).ext hk' (by intros; (try simp only []); omega)) rfl rfl rfl) ?_
        refine X.dTake 2 rfl (by kernel_rfl) (by kernel_rfl) (by kernel_rfl) (X.dwN rfl) (fun w' hk' => X.assign rfl) ?_
        refine X.dE (i := 3) (by kernel_rfl) rfl (X.dwN rfl) (X.storeNE Try.sizeOf70 ((hB2.ext hx2 (fun h => by have := HS.hU _ (⟨j, hj, h⟩); omega)).keep ((hk3.step hx4 (by intros; (try simp only [] at *); omega)).trans hk5)) rfl rfl rfl rfl (fun u hu => by simp at hu; rcases hu with rfl | rfl <;> rfl)) (fun _ _ _ h => absurd h (by decide)) ?_
        rintro _ w6 ⟨hB6, hx6, hz6⟩
        refine X.dStep (i := 4) (by kernel_rfl) rfl (X.dwN rfl) (X.assign rfl) (fun h => absurd h (by decide)) ?_
        refine X.dEnd (by kernel_rfl) ?_
        refine X.inBlock ?_
        refine X.region ?_
        refine X.opw X.wN rfl (X.add rfl rfl (X.w_i64 (by omega))) ?_
        refine X.opw X.wN rfl (X.move (v := .int .i64 _) rfl) ?_
        refine X.opsEnd ?_
        have hpk := pkC_new hLj (.inl (by cases hq : pkC lt L j with
            | none => rfl
            | some q => rw [hq] at h23; simp [bestPC] at h23))
        refine hback (j + 1) _ _ ⟨(by first | rfl | (rw [hpk]; rfl)), (by first | rfl | (rw [hpk]; rfl)), (by first | rfl | (rw [hpk]; rfl)), (by first | rfl | (rw [hpk]; rfl)), (by first | rfl | (rw [hpk]; rfl)), (by first | rfl | (rw [hpk]; rfl)), (by first | rfl | (rw [hpk]; rfl)), trivial⟩ ⟨by omega, (cheads_next HS hBw (by omega) hd1 hd2 hj hH2 hx2 (Ext.andThen (Ext.andThen (Ext.andThen (Ext.andThen (Ext.refl (fun k => w.heap.size ≤ k) _) hk3 (by intro k h1 h2; first | exact (h2 : False).elim | omega | ((try simp only [] at *); omega))) hx4 (by intro k h1 h2; first | exact (h2 : False).elim | omega | ((try simp only [] at *); omega))) hk5 (by intro k h1 h2; first | exact (h2 : False).elim | omega | ((try simp only [] at *); omega))) hx6 (by intro k h1 h2; first | exact (h2 : False).elim | omega | ((try simp only [] at *); omega)))).1, (cheads_next HS hBw (by omega) hd1 hd2 hj hH2 hx2 (Ext.andThen (Ext.andThen (Ext.andThen (Ext.andThen (Ext.refl (fun k => w.heap.size ≤ k) _) hk3 (by intro k h1 h2; first | exact (h2 : False).elim | omega | ((try simp only [] at *); omega))) hx4 (by intro k h1 h2; first | exact (h2 : False).elim | omega | ((try simp only [] at *); omega))) hk5 (by intro k h1 h2; first | exact (h2 : False).elim | omega | ((try simp only [] at *); omega))) hx6 (by intro k h1 h2; first | exact (h2 : False).elim | omega | ((try simp only [] at *); omega)))).2, (by rw [hpk]; exact hB6), (((hS.ext hx2 (fun k h1 h2 h => (hsep k (⟨j, hj, h⟩)).1 ⟨h1, h2⟩)).keep ((hk3.step hx4 (by intros; (try simp only [] at *); omega)).trans hk5)).ext hx6 (by intros; (try simp only []); omega)), (((hB0.ext hx2 (fun h => (hsep _ (⟨j, hj, h⟩)).2.1 rfl)).keep ((hk3.step hx4 (by intros; (try simp only [] at *); omega)).trans hk5)).ext hx6 (by intros; (try simp only []); omega)), (((hB1.ext hx2 (fun h => (hsep _ (⟨j, hj, h⟩)).2.2 rfl)).keep ((hk3.step hx4 (by intros; (try simp only [] at *); omega)).trans hk5)).ext hx6 (by intros; (try simp only []); omega)), (Ext.andThen (Ext.andThen (Ext.andThen (Ext.andThen (Ext.andThen hE hx2 (by intro k h1 h2; first | exact (h2 : False).elim | exact ⟨j, hj, h2⟩ | exact ⟨i, hin, .inr h2⟩ | (exfalso; (try simp only [] at *); omega))) hk3 (by intro k h1 h2; first | exact (h2 : False).elim | exact ⟨j, hj, h2⟩ | exact ⟨i, hin, .inr h2⟩ | (exfalso; (try simp only [] at *); omega))) hx4 (by intro k h1 h2; first | exact (h2 : False).elim | exact ⟨j, hj, h2⟩ | exact ⟨i, hin, .inr h2⟩ | (exfalso; (try simp only [] at *); omega))) hk5 (by intro k h1 h2; first | exact (h2 : False).elim | exact ⟨j, hj, h2⟩ | exact ⟨i, hin, .inr h2⟩ | (exfalso; (try simp only [] at *); omega))) hx6 (by intro k h1 h2; first | exact (h2 : False).elim | exact ⟨j, hj, h2⟩ | exact ⟨i, hin, .inr h2⟩ | (exfalso; (try simp only [] at *); omega))), by omega, (hCWs _ _ hCWl (Ext.andThen (Ext.andThen (Ext.andThen (Ext.andThen (Ext.andThen (Ext.refl (fun k => B ≤ k) _) hx2 (by intro k h1 h2; first | exact (h2 : False).elim | exact (HS.hU k ⟨j, hj, h2⟩).1 | ((try simp only [] at *); omega))) hk3 (by intro k h1 h2; first | exact (h2 : False).elim | exact (HS.hU k ⟨j, hj, h2⟩).1 | ((try simp only [] at *); omega))) hx4 (by intro k h1 h2; first | exact (h2 : False).elim | exact (HS.hU k ⟨j, hj, h2⟩).1 | ((try simp only [] at *); omega))) hk5 (by intro k h1 h2; first | exact (h2 : False).elim | exact (HS.hU k ⟨j, hj, h2⟩).1 | ((try simp only [] at *); omega))) hx6 (by intro k h1 h2; first | exact (h2 : False).elim | exact (HS.hU k ⟨j, hj, h2⟩).1 | ((try simp only [] at *); omega))))⟩ (by omega)
      · refine X.opw (X.wG rfl rfl rfl) rfl (X.move (v := .bool false) rfl) ?_
        refine X.opw (X.wG rfl rfl rfl) rfl (X.load1B Try.isAgg105 ((hB1.ext hx2 (fun h => (hsep _ (⟨j, hj, h⟩)).2.2 rfl)).keep (hk3.step hx4 (by intros; (try simp only [] at *); omega))) rfl rfl) ?_
        refine X.opw (X.wG rfl rfl rfl) rfl (X.loadNB Try.isAgg70 Try.sizeOf70 hB4 rfl rfl rfl) ?_
        refine X.opw (X.wG rfl rfl rfl) rfl (X.loadNB Try.isAgg70 Try.sizeOf70 ((hB2.ext hx2 (fun h => by have := HS.hU _ (⟨j, hj, h⟩); omega)).keep (hk3.step hx4 (by intros; (try simp only [] at *); omega))) rfl rfl rfl) ?_
        refine X.opE (X.wG rfl rfl rfl) rfl ((hcmp x2 (bestXC (pkC lt L j)) _ (hok j hj _ (by rw [hLj]; exact List.mem_cons_self)) (pkC_ok hok (Nat.le_of_lt hj) (fun hq => by rw [hq] at h23; simp [bestPC] at h23)) (hCWs _ _ hCWl (Ext.andThen (Ext.andThen (Ext.andThen (Ext.refl (fun k => B ≤ k) _) hx2 (by intro k h1 h2; first | exact (h2 : False).elim | exact (HS.hU k ⟨j, hj, h2⟩).1 | ((try simp only [] at *); omega))) hk3 (by intro k h1 h2; first | exact (h2 : False).elim | exact (HS.hU k ⟨j, hj, h2⟩).1 | ((try simp only [] at *); omega))) hx4 (by intro k h1 h2; first | exact (h2 : False).elim | exact (HS.hU k ⟨j, hj, h2⟩).1 | ((try simp only [] at *); omega))))) _ _ _ _ _ _ _ _ _ rfl rfl) ?_
        rintro _ w7 ⟨nc7, rfl, hlt7, hk7⟩
        have hk7' := hk7.size
        refine X.opP (X.wG rfl rfl rfl) rfl rfl (X.lss rfl rfl) (fun h29 => ?_) (fun h29 => ?_)
        · 
          refine X.opw (X.wG rfl rfl rfl) rfl (X.pickF (v := .bool true) rfl rfl) ?_
          refine X.opw X.wN rfl (X.pickT (v := .bool true) rfl rfl) ?_
          refine X.opsEnd ?_
          refine X.condT rfl ?_
          refine X.regionD (fun k => k = w.heap.size) 3 (by kernel_rfl) (by kernel_rfl) (fun w8 hk8 hz8 => ?_)
          refine X.dTake 0 rfl (by kernel_rfl) (by kernel_rfl) (by kernel_rfl) (X.dwN rfl) (fun w' hk' => X.move rfl) ?_
          refine X.dTake 1 rfl (by kernel_rfl) (by kernel_rfl) (by kernel_rfl) (X.dwN rfl) (fun w' hk' => X.loadNB Try.isAgg70 Try.sizeOf70 ((hB4.keep (hk7.trans hk8)).ext hk' (by intros; (try simp only []); omega)) rfl rfl rfl) ?_
          refine X.dTake 2 rfl (by kernel_rfl) (by kernel_rfl) (by kernel_rfl) (X.dwN rfl) (fun w' hk' => X.assign rfl) ?_
          refine X.dE (i := 3) (by kernel_rfl) rfl (X.dwN rfl) (X.storeNE Try.sizeOf70 ((hB2.ext hx2 (fun h => by have := HS.hU _ (⟨j, hj, h⟩); omega)).keep (((hk3.step hx4 (by intros; (try simp only [] at *); omega)).trans hk7).trans hk8)) rfl rfl rfl rfl (fun u hu => by simp at hu; rcases hu with rfl | rfl <;> rfl)) (fun _ _ _ h => absurd h (by decide)) ?_
          rintro _ w9 ⟨hB9, hx9, hz9⟩
          refine X.dStep (i := 4) (by kernel_rfl) rfl (X.dwN rfl) (X.assign rfl) (fun h => absurd h (by decide)) ?_
          refine X.dEnd (by kernel_rfl) ?_
          refine X.inBlock ?_
          refine X.region ?_
          refine X.opw X.wN rfl (X.add rfl rfl (X.w_i64 (by omega))) ?_
          refine X.opw X.wN rfl (X.move (v := .int .i64 _) rfl) ?_
          refine X.opsEnd ?_
          have hpk := pkC_new hLj (.inr (hlt7.1 h29))
          refine hback (j + 1) _ _ ⟨(by first | rfl | (rw [hpk]; rfl)), (by first | rfl | (rw [hpk]; rfl)), (by first | rfl | (rw [hpk]; rfl)), (by first | rfl | (rw [hpk]; rfl)), (by first | rfl | (rw [hpk]; rfl)), (by first | rfl | (rw [hpk]; rfl)), (by first | rfl | (rw [hpk]; rfl)), trivial⟩ ⟨by omega, (cheads_next HS hBw (by omega) hd1 hd2 hj hH2 hx2 (Ext.andThen (Ext.andThen (Ext.andThen (Ext.andThen (Ext.andThen (Ext.refl (fun k => w.heap.size ≤ k) _) hk3 (by intro k h1 h2; first | exact (h2 : False).elim | omega | ((try simp only [] at *); omega))) hx4 (by intro k h1 h2; first | exact (h2 : False).elim | omega | ((try simp only [] at *); omega))) hk7 (by intro k h1 h2; first | exact (h2 : False).elim | omega | ((try simp only [] at *); omega))) hk8 (by intro k h1 h2; first | exact (h2 : False).elim | omega | ((try simp only [] at *); omega))) hx9 (by intro k h1 h2; first | exact (h2 : False).elim | omega | ((try simp only [] at *); omega)))).1, (cheads_next HS hBw (by omega) hd1 hd2 hj hH2 hx2 (Ext.andThen (Ext.andThen (Ext.andThen (Ext.andThen (Ext.andThen (Ext.refl (fun k => w.heap.size ≤ k) _) hk3 (by intro k h1 h2; first | exact (h2 : False).elim | omega | ((try simp only [] at *); omega))) hx4 (by intro k h1 h2; first | exact (h2 : False).elim | omega | ((try simp only [] at *); omega))) hk7 (by intro k h1 h2; first | exact (h2 : False).elim | omega | ((try simp only [] at *); omega))) hk8 (by intro k h1 h2; first | exact (h2 : False).elim | omega | ((try simp only [] at *); omega))) hx9 (by intro k h1 h2; first | exact (h2 : False).elim | omega | ((try simp only [] at *); omega)))).2, (by rw [hpk]; exact hB9), (((hS.ext hx2 (fun k h1 h2 h => (hsep k (⟨j, hj, h⟩)).1 ⟨h1, h2⟩)).keep (((hk3.step hx4 (by intros; (try simp only [] at *); omega)).trans hk7).trans hk8)).ext hx9 (by intros; (try simp only []); omega)), (((hB0.ext hx2 (fun h => (hsep _ (⟨j, hj, h⟩)).2.1 rfl)).keep (((hk3.step hx4 (by intros; (try simp only [] at *); omega)).trans hk7).trans hk8)).ext hx9 (by intros; (try simp only []); omega)), (((hB1.ext hx2 (fun h => (hsep _ (⟨j, hj, h⟩)).2.2 rfl)).keep (((hk3.step hx4 (by intros; (try simp only [] at *); omega)).trans hk7).trans hk8)).ext hx9 (by intros; (try simp only []); omega)), (Ext.andThen (Ext.andThen (Ext.andThen (Ext.andThen (Ext.andThen (Ext.andThen hE hx2 (by intro k h1 h2; first | exact (h2 : False).elim | exact ⟨j, hj, h2⟩ | exact ⟨i, hin, .inr h2⟩ | (exfalso; (try simp only [] at *); omega))) hk3 (by intro k h1 h2; first | exact (h2 : False).elim | exact ⟨j, hj, h2⟩ | exact ⟨i, hin, .inr h2⟩ | (exfalso; (try simp only [] at *); omega))) hx4 (by intro k h1 h2; first | exact (h2 : False).elim | exact ⟨j, hj, h2⟩ | exact ⟨i, hin, .inr h2⟩ | (exfalso; (try simp only [] at *); omega))) hk7 (by intro k h1 h2; first | exact (h2 : False).elim | exact ⟨j, hj, h2⟩ | exact ⟨i, hin, .inr h2⟩ | (exfalso; (try simp only [] at *); omega))) hk8 (by intro k h1 h2; first | exact (h2 : False).elim | exact ⟨j, hj, h2⟩ | exact ⟨i, hin, .inr h2⟩ | (exfalso; (try simp only [] at *); omega))) hx9 (by intro k h1 h2; first | exact (h2 : False).elim | exact ⟨j, hj, h2⟩ | exact ⟨i, hin, .inr h2⟩ | (exfalso; (try simp only [] at *); omega))), by omega, (hCWs _ _ hCWl (Ext.andThen (Ext.andThen (Ext.andThen (Ext.andThen (Ext.andThen (Ext.andThen (Ext.refl (fun k => B ≤ k) _) hx2 (by intro k h1 h2; first | exact (h2 : False).elim | exact (HS.hU k ⟨j, hj, h2⟩).1 | ((try simp only [] at *); omega))) hk3 (by intro k h1 h2; first | exact (h2 : False).elim | exact (HS.hU k ⟨j, hj, h2⟩).1 | ((try simp only [] at *); omega))) hx4 (by intro k h1 h2; first | exact (h2 : False).elim | exact (HS.hU k ⟨j, hj, h2⟩).1 | ((try simp only [] at *); omega))) hk7 (by intro k h1 h2; first | exact (h2 : False).elim | exact (HS.hU k ⟨j, hj, h2⟩).1 | ((try simp only [] at *); omega))) hk8 (by intro k h1 h2; first | exact (h2 : False).elim | exact (HS.hU k ⟨j, hj, h2⟩).1 | ((try simp only [] at *); omega))) hx9 (by intro k h1 h2; first | exact (h2 : False).elim | exact (HS.hU k ⟨j, hj, h2⟩).1 | ((try simp only [] at *); omega))))⟩ (by omega)
        · 
          refine X.opw (X.wG rfl rfl rfl) rfl (X.pickF (v := .bool false) rfl rfl) ?_
          refine X.opw X.wN rfl (X.pickT (v := .bool false) rfl rfl) ?_
          refine X.opsEnd ?_
          refine X.condF rfl ?_
          refine X.skip ?_
          refine X.inBlock ?_
          refine X.region ?_
          refine X.opw X.wN rfl (X.add rfl rfl (X.w_i64 (by omega))) ?_
          refine X.opw X.wN rfl (X.move (v := .int .i64 _) rfl) ?_
          refine X.opsEnd ?_
          have hpk := pkC_old hLj (fun hq => by rw [hq] at h23; simp [bestPC] at h23) (fun h => h29 (hlt7.2 h))
          refine hback (j + 1) _ _ ⟨(by first | rfl | (rw [hpk]; rfl)), (by first | rfl | (rw [hpk]; rfl)), (by first | rfl | (rw [hpk]; rfl)), (by first | rfl | (rw [hpk]; rfl)), (by first | rfl | (rw [hpk]; rfl)), (by first | rfl | (rw [hpk]; rfl)), (by first | rfl | (rw [hpk]; rfl)), trivial⟩ ⟨by omega, (cheads_next HS hBw (by omega) hd1 hd2 hj hH2 hx2 (Ext.andThen (Ext.andThen (Ext.andThen (Ext.refl (fun k => w.heap.size ≤ k) _) hk3 (by intro k h1 h2; first | exact (h2 : False).elim | omega | ((try simp only [] at *); omega))) hx4 (by intro k h1 h2; first | exact (h2 : False).elim | omega | ((try simp only [] at *); omega))) hk7 (by intro k h1 h2; first | exact (h2 : False).elim | omega | ((try simp only [] at *); omega)))).1, (cheads_next HS hBw (by omega) hd1 hd2 hj hH2 hx2 (Ext.andThen (Ext.andThen (Ext.andThen (Ext.refl (fun k => w.heap.size ≤ k) _) hk3 (by intro k h1 h2; first | exact (h2 : False).elim | omega | ((try simp only [] at *); omega))) hx4 (by intro k h1 h2; first | exact (h2 : False).elim | omega | ((try simp only [] at *); omega))) hk7 (by intro k h1 h2; first | exact (h2 : False).elim | omega | ((try simp only [] at *); omega)))).2, (by rw [hpk]; exact ((hB2.ext hx2 (fun h => by have := HS.hU _ (⟨j, hj, h⟩); omega)).keep ((hk3.step hx4 (by intros; (try simp only [] at *); omega)).trans hk7))), ((hS.ext hx2 (fun k h1 h2 h => (hsep k (⟨j, hj, h⟩)).1 ⟨h1, h2⟩)).keep ((hk3.step hx4 (by intros; (try simp only [] at *); omega)).trans hk7)), ((hB0.ext hx2 (fun h => (hsep _ (⟨j, hj, h⟩)).2.1 rfl)).keep ((hk3.step hx4 (by intros; (try simp only [] at *); omega)).trans hk7)), ((hB1.ext hx2 (fun h => (hsep _ (⟨j, hj, h⟩)).2.2 rfl)).keep ((hk3.step hx4 (by intros; (try simp only [] at *); omega)).trans hk7)), (Ext.andThen (Ext.andThen (Ext.andThen (Ext.andThen hE hx2 (by intro k h1 h2; first | exact (h2 : False).elim | exact ⟨j, hj, h2⟩ | exact ⟨i, hin, .inr h2⟩ | (exfalso; (try simp only [] at *); omega))) hk3 (by intro k h1 h2; first | exact (h2 : False).elim | exact ⟨j, hj, h2⟩ | exact ⟨i, hin, .inr h2⟩ | (exfalso; (try simp only [] at *); omega))) hx4 (by intro k h1 h2; first | exact (h2 : False).elim | exact ⟨j, hj, h2⟩ | exact ⟨i, hin, .inr h2⟩ | (exfalso; (try simp only [] at *); omega))) hk7 (by intro k h1 h2; first | exact (h2 : False).elim | exact ⟨j, hj, h2⟩ | exact ⟨i, hin, .inr h2⟩ | (exfalso; (try simp only [] at *); omega))), by omega, (hCWs _ _ hCWl (Ext.andThen (Ext.andThen (Ext.andThen (Ext.andThen (Ext.refl (fun k => B ≤ k) _) hx2 (by intro k h1 h2; first | exact (h2 : False).elim | exact (HS.hU k ⟨j, hj, h2⟩).1 | ((try simp only [] at *); omega))) hk3 (by intro k h1 h2; first | exact (h2 : False).elim | exact (HS.hU k ⟨j, hj, h2⟩).1 | ((try simp only [] at *); omega))) hx4 (by intro k h1 h2; first | exact (h2 : False).elim | exact (HS.hU k ⟨j, hj, h2⟩).1 | ((try simp only [] at *); omega))) hk7 (by intro k h1 h2; first | exact (h2 : False).elim | exact (HS.hU k ⟨j, hj, h2⟩).1 | ((try simp only [] at *); omega))))⟩ (by omega)
    · have hLj : L j = [] := by
        cases hq : L j with
        | nil => rfl
        | cons y ys => rw [hq] at h21; simp at h21
      refine X.opS rfl rfl rfl rfl rfl ?_
      refine X.opS rfl rfl rfl rfl rfl ?_
      refine X.opS rfl rfl rfl rfl rfl ?_
      refine X.opU rfl rfl rfl rfl ?_
      refine X.opU rfl rfl rfl rfl ?_
      refine X.opU rfl rfl rfl rfl ?_
      refine X.opU rfl rfl rfl rfl ?_
      refine X.opU rfl rfl rfl rfl ?_
      refine X.opS rfl rfl rfl rfl rfl ?_
      refine X.opw X.wN rfl (X.pickF (v := .bool false) rfl rfl) ?_
      refine X.opsEnd ?_
      refine X.condF rfl ?_
      refine X.skip ?_
      refine X.inBlock ?_
      refine X.region ?_
      refine X.opw X.wN rfl (X.add rfl rfl (X.w_i64 (by omega))) ?_
      refine X.opw X.wN rfl (X.move (v := .int .i64 _) rfl) ?_
      refine X.opsEnd ?_
      have hpk := pkC_nil (lt := lt) hLj
      refine hback (j + 1) _ _ ⟨(by first | rfl | (rw [hpk]; rfl)), (by first | rfl | (rw [hpk]; rfl)), (by first | rfl | (rw [hpk]; rfl)), (by first | rfl | (rw [hpk]; rfl)), (by first | rfl | (rw [hpk]; rfl)), (by first | rfl | (rw [hpk]; rfl)), (by first | rfl | (rw [hpk]; rfl)), trivial⟩ ⟨by omega, (cheads_next HS hBw (by omega) hd1 hd2 hj hH2 hx2 (Ext.andThen (Ext.andThen (Ext.refl (fun k => w.heap.size ≤ k) _) hk3 (by intro k h1 h2; first | exact (h2 : False).elim | omega | ((try simp only [] at *); omega))) hx4 (by intro k h1 h2; first | exact (h2 : False).elim | omega | ((try simp only [] at *); omega)))).1, (cheads_next HS hBw (by omega) hd1 hd2 hj hH2 hx2 (Ext.andThen (Ext.andThen (Ext.refl (fun k => w.heap.size ≤ k) _) hk3 (by intro k h1 h2; first | exact (h2 : False).elim | omega | ((try simp only [] at *); omega))) hx4 (by intro k h1 h2; first | exact (h2 : False).elim | omega | ((try simp only [] at *); omega)))).2, (by rw [hpk]; exact ((hB2.ext hx2 (fun h => by have := HS.hU _ (⟨j, hj, h⟩); omega)).keep (hk3.step hx4 (by intros; (try simp only [] at *); omega)))), ((hS.ext hx2 (fun k h1 h2 h => (hsep k (⟨j, hj, h⟩)).1 ⟨h1, h2⟩)).keep (hk3.step hx4 (by intros; (try simp only [] at *); omega))), ((hB0.ext hx2 (fun h => (hsep _ (⟨j, hj, h⟩)).2.1 rfl)).keep (hk3.step hx4 (by intros; (try simp only [] at *); omega))), ((hB1.ext hx2 (fun h => (hsep _ (⟨j, hj, h⟩)).2.2 rfl)).keep (hk3.step hx4 (by intros; (try simp only [] at *); omega))), (Ext.andThen (Ext.andThen (Ext.andThen hE hx2 (by intro k h1 h2; first | exact (h2 : False).elim | exact ⟨j, hj, h2⟩ | exact ⟨i, hin, .inr h2⟩ | (exfalso; (try simp only [] at *); omega))) hk3 (by intro k h1 h2; first | exact (h2 : False).elim | exact ⟨j, hj, h2⟩ | exact ⟨i, hin, .inr h2⟩ | (exfalso; (try simp only [] at *); omega))) hx4 (by intro k h1 h2; first | exact (h2 : False).elim | exact ⟨j, hj, h2⟩ | exact ⟨i, hin, .inr h2⟩ | (exfalso; (try simp only [] at *); omega))), by omega, (hCWs _ _ hCWl (Ext.andThen (Ext.andThen (Ext.andThen (Ext.refl (fun k => B ≤ k) _) hx2 (by intro k h1 h2; first | exact (h2 : False).elim | exact (HS.hU k ⟨j, hj, h2⟩).1 | ((try simp only [] at *); omega))) hk3 (by intro k h1 h2; first | exact (h2 : False).elim | exact (HS.hU k ⟨j, hj, h2⟩).1 | ((try simp only [] at *); omega))) hx4 (by intro k h1 h2; first | exact (h2 : False).elim | exact (HS.hU k ⟨j, hj, h2⟩).1 | ((try simp only [] at *); omega))))⟩ (by omega)
  · have hjn : n = j := by omega
    subst hjn
    refine X.opsEnd ?_
    refine X.seq ?_
    refine X.condF rfl ?_
    refine X.exit rfl ?_
    refine X.seq ?_
    refine X.seq ?_
    refine X.region ?_
    refine X.opw X.wN rfl (X.move rfl) ?_
    refine X.opB X.wN rfl rfl (X.nePtrN Try.underlying103 rfl rfl) (fun h36 => ?_) (fun h36 => ?_)
    · obtain ⟨⟨i, x⟩, hpn⟩ : ∃ q, pkC lt L n = some q := by
        cases hq : pkC lt L n with
        | none => rw [hq] at h36; simp [bestPC] at h36
        | some q => exact ⟨q, rfl⟩
      obtain ⟨hin, li, hLi⟩ := pkC_some hpn
      obtain ⟨x', hHi⟩ := hd1 i hin
      rw [hLi] at hHi
      rw [hpn]
      refine X.opsEnd ?_
      refine X.condT rfl ?_
      refine X.region ?_
      refine X.opw X.wN rfl (X.move rfl) ?_
      refine X.opE X.wN rfl (X.callE (cpass_c _ hHi (HS.bH i hin).1 (HS.tH i hin)) Try.call65 rfl rfl) ?_
      rintro _ w10 ⟨rfl, hH10, hx10⟩
      have hx10' := hx10.size
      refine X.opsEnd ?_
      refine X.seq ?_
      refine X.region ?_
      refine X.opw X.wN rfl (X.loadNB Try.isAgg70 Try.sizeOf70 (hB2.ext hx10 (fun h => by have := HS.hU _ (⟨i, hin, .inr h⟩); omega)) rfl rfl rfl) ?_
      refine X.opw X.wN rfl (X.move (v := .bool _) rfl) ?_
      refine X.opE X.wN rfl (X.storeNE Try.sizeOf70 (hB2.ext hx10 (fun h => by have := HS.hU _ (⟨i, hin, .inr h⟩); omega)) rfl rfl rfl rfl (fun u hu => by simp at hu; rcases hu with rfl | rfl <;> rfl)) ?_
      rintro _ w11 ⟨hB11, hx11, hz11⟩
      refine X.opw X.wN rfl (X.assign (v := .bool _) rfl) ?_
      refine X.opsEnd ?_
      refine X.ret_unw (X.unwR2 Try.func72 Try.results72 (X.ResOk.cell rfl (X.lvN Try.isAgg70 Try.sizeOf70 hB11 rfl)) (show X.ResOk _ _ _ (.tmp 3) (.bool _) from rfl) ?_)
      rw [mgCC_some hpn, hpn]
      exact ⟨rfl, (Ext.andThen (Ext.andThen hE hx10 (by intro k h1 h2; first | exact (h2 : False).elim | exact ⟨j, hj, h2⟩ | exact ⟨i, hin, .inr h2⟩ | (exfalso; (try simp only [] at *); omega))) hx11 (by intro k h1 h2; first | exact (h2 : False).elim | exact ⟨j, hj, h2⟩ | exact ⟨i, hin, .inr h2⟩ | (exfalso; (try simp only [] at *); omega))), fun _ => ⟨updLC L i, rfl, cheads_pass HS hBw hd1 hin hLi hH10 hx10 (Ext.andThen (Ext.refl (fun k => w.heap.size ≤ k) _) hx11 (by intro k h1 h2; first | exact (h2 : False).elim | omega | ((try simp only [] at *); omega))), fun j x h => updLC_mem h⟩⟩
    · have hpn : pkC lt L n = none := by
        cases hq : pkC lt L n with
        | none => rfl
        | some q => rw [hq] at h36; simp [bestPC] at h36
      refine X.opsEnd ?_
      refine X.condF rfl ?_
      refine X.skip ?_
      refine X.seq ?_
      refine X.region ?_
      refine X.opw X.wN rfl (X.loadNB Try.isAgg70 Try.sizeOf70 hB2 rfl rfl rfl) ?_
      refine X.opw X.wN rfl (X.move (v := .bool _) rfl) ?_
      refine X.opE X.wN rfl (X.storeNE Try.sizeOf70 hB2 rfl rfl rfl rfl (fun u hu => by simp at hu; rcases hu with rfl | rfl <;> rfl)) ?_
      rintro _ w12 ⟨hB12, hx12, hz12⟩
      refine X.opw X.wN rfl (X.assign (v := .bool _) rfl) ?_
      refine X.opsEnd ?_
      refine X.ret_unw (X.unwR2 Try.func72 Try.results72 (X.ResOk.cell rfl (X.lvN Try.isAgg70 Try.sizeOf70 hB12 rfl)) (show X.ResOk _ _ _ (.tmp 3) (.bool _) from rfl) ?_)
      rw [mgCC_none hpn, hpn]
      exact ⟨rfl, (Ext.andThen hE hx12 (by intro k h1 h2; first | exact (h2 : False).elim | exact ⟨j, hj, h2⟩ | exact ⟨i, hin, .inr h2⟩ | (exfalso; (try simp only [] at *); omega))), fun h => absurd rfl h⟩
end Go.Proofs.Ytgfficbkajcdpaa

namespace Go.Proofs.Ytgfficbkajcdpaa
open Go Go.Proofs.Ytgfficbkajcdpaa.X
set_option linter.unusedVariables false
set_option linter.unusedSimpArgs false
def IsCC (y : Value) : Prop := y = .nilIface ∨ ∃ p, y = .iface 108 p
theorem cbuild_hd (y : Value) (h : IsCC y) : Try.prog.built 107 [(0, y)] = some #[y, .slice none 0 0, .int .i64 0, .bool false, .bool false] := by
  rcases h with rfl | ⟨p, rfl⟩ <;> kernel_rfl
theorem EPhC : ElemInfo Try.prog 103 1 8 := ElemInfo.of (z := .pointer none) (by kernel_rfl) rfl rfl rfl
-- f71 "pedigree/merge.heads[pedigree/api.Counted]" params [97] results [115] -> [(ResultVar.tmp 2)] nfree 0 n
set_option maxHeartbeats 4000000 in
set_option maxRecDepth 100000 in
theorem cheads_c {lo hi : Nat} {A : Option Addr} {n c : Nat} {cs : List Value} (w : World) (hs : Sl KR1 lo hi w A n cs) (hn : n ≤ 1000000) (hci : ∀ (i : Nat) y, cs[i]? = some y → IsCC y) : Ret Try.prog 71 #[.slice A n c] w fun r w' => ∃ hbs : List Nat, hbs.length = n ∧ Mine KR1 103 (fun k => w.heap.size ≤ k ∧ k ∉ hbs) 0 0 w' r (hbs.map ptrV) ∧ (∀ (i b : Nat), hbs[i]? = some b → ∃ cv, cs[i]? = some cv ∧ Blk w' b (hdLC cv zC false false) 107) ∧ (∀ b, b ∈ hbs → w.heap.size ≤ b ∧ b < w'.heap.size) ∧ hbs.Nodup ∧ Keep w w' := by
  have hl := hs.len
  refine X.enter Try.func71 rfl Try.ntmps71 rfl ?_
  refine X.seq ?_
  refine X.region ?_
  refine X.opw X.wN rfl (X.assign rfl) ?_
  refine X.opsEnd ?_
  refine X.seq ?_
  refine X.region ?_
  refine X.opw X.wN rfl (X.assign rfl) ?_
  refine X.opsEnd ?_
  refine X.seq ?_
  refine X.seq ?_
  refine X.region ?_
  refine X.opw X.wN rfl (X.move (v := .slice _ _ _) rfl) ?_
  refine X.opw X.wN rfl (X.lenSl Try.underlying97 rfl) ?_
  refine X.opw X.wN rfl (X.move rfl) ?_
  refine X.opsEnd ?_
  refine X.block ?_
  -- LOOP live: 3=out*, 6, 7, 8*
  refine X.loopL (σ := Nat × Value × List Nat) (fun s => [(3, s.2.1), (6, .slice A n c), (7, .int .i64 (n : Int)), (8, .int .i64 (s.1 : Int))]) (fun s w' => s.2.2.length = s.1 ∧ s.1 ≤ n ∧ Mine KR1 103 (fun k => w.heap.size ≤ k ∧ k ∉ s.2.2) 0 0 w' s.2.1 (s.2.2.map ptrV) ∧ (∀ (i b : Nat), s.2.2[i]? = some b → ∃ cv, cs[i]? = some cv ∧ Blk w' b (hdLC cv zC false false) 107) ∧ (∀ b, b ∈ s.2.2 → w.heap.size ≤ b ∧ b < w'.heap.size) ∧ s.2.2.Nodup ∧ Keep w w') (fun s => n - s.1) (0, _, []) ⟨rfl, rfl, rfl, rfl, trivial⟩ ⟨rfl, by omega, Mine.nil _ _ _ _ _ _, fun i b h => by simp at h, fun b h => by simp at h, List.nodup_nil, (Keep.refl _)⟩ ?_
  rintro ⟨j, v, hbs⟩ b0 wl ⟨hj, hjn, hM, hbk, hbb, hnd, hk⟩ hback
  dsimp only
  simp only at hj hjn hM hbk hbb hnd
  have hk' := hk.size
  refine X.seq ?_
  refine X.region ?_
  refine X.opP X.wN rfl rfl (X.lss rfl rfl) (fun h9 => ?_) (fun h9 => ?_)
  · obtain ⟨y, hcj⟩ := getN j hl h9
    refine X.opsEnd ?_
    refine X.seq ?_
    refine X.condT rfl ?_
    refine X.skip ?_
    refine X.seq ?_
    refine X.block ?_
    refine X.seq ?_
    refine X.region ?_
    refine X.opw X.wN rfl (X.idxS (hs.keep hk) Try.underlying97 Try.sizeOf72 rfl rfl ⟨by omega, by omega⟩) ?_
    refine X.opw X.wN rfl (X.loadS Try.isAgg72 (hs.keep hk) hcj rfl (fun _ h => by rw [h.1]; rfl)) ?_
    refine X.opw X.wN rfl (X.assign rfl) ?_
    refine X.opsEnd ?_
    refine X.region ?_
    refine X.opw X.wN rfl (X.move rfl) ?_
    refine X.opw X.wN rfl (X.move rfl) ?_
    refine X.opw X.wN rfl (X.buildB (vs := [(0, y)]) (cs := #[y, .slice none 0 0, .int .i64 0, .bool false, .bool false]) rfl (cbuild_hd y (hci j y hcj))) ?_
    refine X.opE X.wN rfl (X.boxE rfl rfl) ?_
    rintro _ w1 ⟨rfl, hB1, hk1, hz1⟩
    refine X.opE X.wN rfl (X.litKF KR1_flat (K := KR1) (xs := [Operand.tmp 15]) (vs := [ptrV (wl.heap.size)]) (ys := [ptrV (wl.heap.size)]) Try.underlying115 Try.sizeOf103 Try.zeroValue103 rfl rfl rfl rfl rfl (reps_1 rfl rfl)) ?_
    rintro _ w2 ⟨rfl, hs2, hB2, hk2, hz2⟩
    refine X.opE X.wN rfl (X.appE (K := KR1) (S := fun k => w.heap.size ≤ k ∧ k ∉ hbs ++ [wl.heap.size]) KR1_flat Try.underlying115 EPhC rfl rfl ((hM.mono (T := fun k => w.heap.size ≤ k ∧ k ∉ hbs ++ [wl.heap.size]) (fun k hk hs => ⟨hs.1, fun h => (List.mem_append.1 h).elim hs.2 (fun h => by have := List.mem_singleton.1 h; omega)⟩)).keep (hk1.trans hk2)) hs2 (by rw [List.length_map]; (try simp only [List.length_singleton]); omega) (fun k hk => ⟨by omega, fun h => (List.mem_append.1 h).elim (fun h => by have := hbb k h; omega) (fun h => by have := List.mem_singleton.1 h; omega)⟩)) ?_
    rintro v3 w3 ⟨hM3, hx3⟩
    have hx3' := hx3.size
    refine X.opw X.wN rfl (X.assign rfl) ?_
    refine X.opsEnd ?_
    refine X.inBlock ?_
    refine X.region ?_
    refine X.opw X.wN rfl (X.add rfl rfl (X.w_i64 (by omega))) ?_
    refine X.opw X.wN rfl (X.move (v := .int .i64 _) rfl) ?_
    refine X.opsEnd ?_
    have hblk : ∀ (i x : Nat), (hbs ++ [wl.heap.size])[i]? = some x → ∃ cv, cs[i]? = some cv ∧ Blk w3 x (hdLC cv zC false false) 107 := by
      intro i x hix
      by_cases hi : i < hbs.length
      · rw [List.getElem?_append_left hi] at hix
        obtain ⟨cv, h1, h2⟩ := hbk i x hix
        exact ⟨cv, h1, (h2.keep (hk1.trans hk2)).ext hx3 (fun h => h.2 (List.mem_append.2 (.inl (mem_at hix))))⟩
      · rw [List.getElem?_append_right (by omega)] at hix
        have h0 : i - hbs.length = 0 := by
          have := (List.getElem?_eq_some_iff.1 hix).1
          simp at this; omega
        rw [h0] at hix
        simp at hix
        rw [← hix, show i = j by omega]
        exact ⟨_, hcj, ((hB1.keep hk2)).ext hx3 (fun h => h.2 (List.mem_append.2 (.inr (List.mem_singleton.2 rfl))))⟩
    have hbb2 : ∀ x, x ∈ hbs ++ [wl.heap.size] → w.heap.size ≤ x ∧ x < w3.heap.size := by
      intro x hx
      rcases List.mem_append.1 hx with h | h
      · have := hbb x h; omega
      · have := List.mem_singleton.1 h; omega
    have hnd2 : (hbs ++ [wl.heap.size]).Nodup := by
      rw [List.nodup_append]
      refine ⟨hnd, by simp, fun x hx y hy => ?_⟩
      have := hbb x hx
      have := List.mem_singleton.1 hy
      omega
    refine hback (j + 1, _, hbs ++ [wl.heap.size]) _ _ ⟨rfl, rfl, rfl, rfl, trivial⟩ ⟨by dsimp only; rw [List.length_append, hj]; rfl, by dsimp only; omega, by dsimp only; rw [List.map_append]; exact hM3, hblk, hbb2, hnd2, (((hk.trans hk1).trans hk2).step hx3 (by intros; (try simp only [] at *); omega))⟩ (by dsimp only; omega)
  · refine X.opsEnd ?_
    refine X.seq ?_
    refine X.condF rfl ?_
    refine X.exit rfl ?_
    refine X.seq ?_
    refine X.region ?_
    refine X.opw X.wN rfl (X.move rfl) ?_
    refine X.opw X.wN rfl (X.assign rfl) ?_
    refine X.opsEnd ?_
    refine X.ret1 Try.func71 Try.results71 rfl ?_
    exact ⟨hbs, by omega, hM, hbk, hbb, hnd, hk⟩
end Go.Proofs.Ytgfficbkajcdpaa

namespace Go.Proofs.Ytgfficbkajcdpaa
open Go Go.Proofs.Ytgfficbkajcdpaa.X
set_option linter.unusedVariables false
set_option linter.unusedSimpArgs false
theorem ccur_made {B bm a b : Nat} {fv : Value} {xs : List CT} {w : World} (h : Stp Try.prog evC zC B (fun k => a ≤ k ∧ k < b) fv xs w) (hb : Blk w bm [fv, .bool false] 110) (hBm : B ≤ bm) (hT : b ≤ bm) (hab : a ≤ bm) : CVC B (fun k => a ≤ k ∧ k < bm + 1) (.iface 108 (.pointer (some ⟨bm, 0, none⟩))) xs w := by
  have hlt := hb.lt
  refine .inr ⟨_, rfl, (Cur.made h hb hBm (fun h => by omega) (fun k hk => by omega) (fun w h => nextc_over fv bm w h) (fun xs w R h1 h2 h3 => nextc_step fv bm _ (fun h => by omega) xs w R h1 h2 h3)).wide fun k hk => ?_⟩
  rcases hk with hk | hk <;> omega
theorem CVC.wide {B : Nat} {T U : Nat → Prop} {c : Value} {xs : List CT} {w : World} (h : CVC B T c xs w) (hU : ∀ k, T k → U k) : CVC B U c xs w := h.imp id fun ⟨p, h1, h2⟩ => ⟨p, h1, h2.wide hU⟩
theorem cheads_c2 {lo hi : Nat} {A : Option Addr} {n c : Nat} {cs : List Value} (w : World) (hs : Sl KR1 lo hi w A n cs) (hn : n ≤ 1000000) (hci : ∀ (i : Nat) y, cs[i]? = some y → IsCC y) : Ret Try.prog 71 #[.slice A n c] w fun r w' => ∃ (hbs : List Nat) (l h : Nat) (A : Option Addr) (c : Nat), r = .slice A n c ∧ n ≤ c ∧ (∀ k, l ≤ k → k < h → k ∉ hbs) ∧ w.heap.size ≤ l ∧ h ≤ w'.heap.size ∧ hbs.length = n ∧ Sl KR1 l h w' A n (hbs.map ptrV) ∧ (∀ (i b : Nat), hbs[i]? = some b → ∃ cv, cs[i]? = some cv ∧ Blk w' b (hdLC cv zC false false) 107) ∧ (∀ b, b ∈ hbs → w.heap.size ≤ b ∧ b < w'.heap.size) ∧ hbs.Nodup ∧ Keep w w' := by
  refine (cheads_c w hs hn hci).mono ?_
  rintro r w' ⟨hbs, h1, h2, h3, h4, h5, h6⟩
  obtain ⟨l, h, A, c, g1, g2, g3, g4, g5, g6⟩ := Mine.range KR1_flat h2 (fun k hk => hk.1) h6.size
  rw [List.length_map, h1] at g4 g5 g6
  exact ⟨hbs, l, h, A, c, g4, g5, fun k a b => (g1 k a b).2, g2, g3, h1, g6, h3, h4, h5, h6⟩
theorem cmg_stp {ok : CT → Prop} {lt : CT → CT → Bool} {CW : World → Prop} {B n a b : Nat} {hb : Nat → Nat} {Tj : Nat → Nat → Prop} {L : Nat → List CT} {c0 c1 : Nat} {cv : Value} {lo hi : Nat} {A : Option Addr} {c : Nat} {vs : List Value} {w : World} (HS : HSet B n hb Tj b) (hBa : B ≤ a) (hn : n ≤ 1000000) (hbw : b ≤ w.heap.size)
    (hTa : ∀ j, j < n → ∀ k, Tj j k → a ≤ k) (hba : ∀ j, j < n → a ≤ hb j) (hlo : a ≤ lo) (hhi : hi ≤ b) (h0 : a ≤ c0 ∧ c0 < b) (h1 : a ≤ c1 ∧ c1 < b)
    (hsl : Sl KR1 lo hi w A n vs) (hvs : ∀ j, j < n → vs[j]? = some (ptrV (hb j))) (hc0 : Blk w c0 [.slice A n c] 115) (hc1 : Blk w c1 [cv] 105) (hsep : ∀ k, UU n hb Tj k → ¬ (lo ≤ k ∧ k < hi) ∧ k ≠ c0 ∧ k ≠ c1) (hd : ∀ j, j < n → HdC B (Tj j) (hb j) (L j) w) (hok : ∀ j, j < n → ∀ x, x ∈ L j → ok x) (hCW : CW w) (hCWs : ∀ w w', CW w → Ext (fun k => B ≤ k) w w' → CW w')
    (hcmp : ∀ (x y : CT) (wa : World), ok x → ok y → CW wa → YC Try.prog cv [evC x, evC y] wa fun r wb => ∃ nc, r = .int .i64 nc ∧ (nc < 0 ↔ lt x y = true) ∧ Keep wa wb) : Stp Try.prog evC zC B (fun k => a ≤ k ∧ k < b) (.func (.func 72) #[] #[ptrV c0, ptrV c1]) (mgCC lt n L) w := by
  have hUa : ∀ k, UU n hb Tj k → a ≤ k ∧ k < b := by
    rintro k ⟨j, hj, hk⟩
    refine ⟨?_, (HS.hU k ⟨j, hj, hk⟩).2⟩
    rcases hk with hk | hk
    · exact hTa j hj k hk
    · rw [hk]; exact hba j hj
  refine ⟨fun xs w => ∃ L, xs = mgCC lt n L ∧ b ≤ w.heap.size ∧ Sl KR1 lo hi w A n vs ∧ Blk w c0 [.slice A n c] 115 ∧ Blk w c1 [cv] 105 ∧ (∀ j, j < n → HdC B (Tj j) (hb j) (L j) w) ∧ CW w ∧ (∀ j, j < n → ∀ x, x ∈ L j → ok x), ⟨L, rfl, hbw, hsl, hc0, hc1, hd, hCW, hok⟩, ?_, ?_⟩
  · rintro xs w w' ⟨L, g1, g2, g3, g4, g5, g6, g7, g8⟩ ha
    have hz := ha.size
    exact ⟨L, g1, by omega, g3.ext ha (fun k x y z => z.2 ⟨by omega, by omega⟩), ha.blk g4 h0, ha.blk g5 h1, fun j hj => (g6 j hj).ext ha fun k _ hk => ⟨hk.1, fun h => hk.2 (hUa k ⟨j, hj, .inl h⟩), fun h => hk.2 (hUa k ⟨j, hj, .inr h⟩)⟩, hCWs _ _ g7 (Ext.mono ha fun k _ h => h.1), g8⟩
  · rintro xs w ⟨L, rfl, g2, g3, g4, g5, g6, g7, g8⟩
    refine YC.of_ret (args := []) (cap := [_, _]) ((CMerge1_c ok lt CW B n hb Tj L c0 c1 cv w (HS.mono g2) (by omega) hn g7 hCWs g3 (by omega) hvs g4 g5 hsep g6 g8 hcmp).mono ?_) Try.call72
    rintro r w' ⟨rfl, hx, hn'⟩
    have hz := hx.size
    refine ⟨rfl, hx.mono fun k _ hk => hUa k hk, fun hne => ?_⟩
    obtain ⟨L', q1, q2, q3⟩ := hn' hne
    exact ⟨L', q1, by omega, g3.ext hx (fun k x y z => (hsep k z).1 ⟨x, y⟩), g4.ext hx (fun h => (hsep _ h).2.1 rfl), g5.ext hx (fun h => (hsep _ h).2.2 rfl), q2, hCWs _ _ g7 (Ext.mono hx fun k _ h => (HS.hU k h).1), fun j hj x h => g8 j hj x (q3 j x h)⟩
-- f61 "pedigree/merge.Merge[pedigree/api.Counted]" params [105, 97] results [72] -> [(ResultVar.tmp 4)] nfree
set_option maxHeartbeats 4000000 in
set_option maxRecDepth 100000 in
theorem CMerge_c {ok : CT → Prop} {lt : CT → CT → Bool} {CW : World → Prop} {B a n : Nat} {Tj : Nat → Nat → Prop} {L : Nat → List CT} {fn : Fn} {bs ca : Array Value} {lo hi : Nat} {A : Option Addr} {c : Nat} {cs : List Value} (w : World) (hs : Sl KR1 lo hi w A n cs) (hn : n ≤ 1000000) (hBa : B ≤ a) (haw : a ≤ w.heap.size)
    (hT : ∀ j, j < n → ∀ k, Tj j k → a ≤ k ∧ k < w.heap.size) (hdis : ∀ i j, i < n → j < n → i ≠ j → ∀ k, Tj i k → ¬ Tj j k) (hcv : ∀ (j : Nat) y, cs[j]? = some y → CVC B (Tj j) y (L j) w) (hok : ∀ j, j < n → ∀ x, x ∈ L j → ok x) (hCW : CW w) (hCWs : ∀ w w', CW w → Ext (fun k => B ≤ k) w w' → CW w')
    (hcmp : ∀ (x y : CT) (wa : World), ok x → ok y → CW wa → YC Try.prog (.func fn bs ca) [evC x, evC y] wa fun r wb => ∃ nc, r = .int .i64 nc ∧ (nc < 0 ↔ lt x y = true) ∧ Keep wa wb) : Ret Try.prog 61 #[.func fn bs ca, .slice A n c] w fun r w' => (∃ p, r = .iface 108 p) ∧ CVC B (fun k => a ≤ k ∧ k < w'.heap.size) r (mgCC lt n L) w' ∧ Keep w w' := by
  have hci : ∀ (i : Nat) y, cs[i]? = some y → IsCC y := fun i y h => (hcv i y h).elim (fun h => .inl h.1) (fun ⟨p, h, _⟩ => .inr ⟨p, h⟩)
  refine X.enter Try.func61 rfl Try.ntmps61 rfl ?_
  refine X.seq ?_
  refine X.region ?_
  refine X.opE X.wN rfl (X.boxE rfl rfl) ?_
  rintro _ w1 ⟨rfl, hB1, hk1, hz1⟩
  refine X.opw X.wN rfl (X.assign rfl) ?_
  refine X.opsEnd ?_
  refine X.seq ?_
  refine X.seq ?_
  refine X.region ?_
  refine X.opw X.wN rfl (X.load1B Try.isAgg105 hB1 rfl rfl) ?_
  refine X.opw X.wN rfl (X.eqFn1 Try.underlying105 rfl rfl) ?_
  refine X.opsEnd ?_
  refine X.condF rfl ?_
  refine X.skip ?_
  refine X.seq ?_
  refine X.region ?_
  refine X.opw X.wN rfl (X.move (v := .slice _ _ _) rfl) ?_
  refine X.opE X.wN rfl (X.callE (cheads_c2 _ (hs.keep hk1) hn hci) Try.call71 rfl rfl) ?_
  rintro _ w2 ⟨hbs, l, h, Aq, cq, rfl, hcq, hlh, hl, hh, hbl, hsq, hbk, hbb, hnd, hk2⟩
  have hk2' := hk2.size
  refine X.opE X.wN rfl (X.allocE Try.zeroValue115 rfl) ?_
  rintro _ w3 ⟨rfl, hB3, hk3, hz3⟩
  refine X.opE X.wN rfl (X.storeE Try.sizeOf115 hB3 rfl rfl rfl rfl) ?_
  rintro _ w4 ⟨hB4, hx4, hz4⟩
  refine X.opsEnd ?_
  refine X.seq ?_
  refine X.region ?_
  refine X.opw X.wN rfl (X.mkFunc rfl) ?_
  refine X.opw X.wN rfl (X.buildB (vs := [(0, .func (.func 72) #[] #[ptrV (w2.heap.size), ptrV (w.heap.size)])]) (cs := #[.func (.func 72) #[] #[ptrV (w2.heap.size), ptrV (w.heap.size)], .bool false]) rfl (by kernel_rfl)) ?_
  refine X.opE X.wN rfl (X.boxE rfl rfl) ?_
  rintro _ w5 ⟨rfl, hB5, hk5, hz5⟩
  refine X.opw X.wN rfl (X.mkIface Try.underlying108 rfl rfl) ?_
  refine X.opw X.wN rfl (X.assign rfl) ?_
  refine X.opsEnd ?_
  refine X.ret1 Try.func61 Try.results61 rfl ?_
  have hg : ∀ j, j < n → hbs[j]? = some (hbs.getD j 0) := fun j hj => by
    have := List.getElem?_eq_getElem (l := hbs) (i := j) (by omega)
    rw [this, List.getD_eq_getElem?_getD, this]; rfl
  have hgb : ∀ j, j < n → w1.heap.size ≤ hbs.getD j 0 ∧ hbs.getD j 0 < w2.heap.size := fun j hj => hbb _ (mem_at (hg j hj))
  have HS : HSet B n (fun j => hbs.getD j 0) Tj w4.heap.size := by
    refine ⟨fun j hj k hk => by have := hT j hj k hk; omega, fun j hj => by have := hgb j hj; (try simp only []); omega, fun j hj h => by have := hT j hj _ h; have := hgb j hj; (try simp only [] at *); omega, fun i j hi hj hne k h1 h2 => ?_⟩
    have gi := hgb i hi
    have gj := hgb j hj
    try simp only at h1 h2
    rcases h1 with h1 | h1 <;> rcases h2 with h2 | h2
    · exact hdis i j hi hj hne k h1 h2
    · have := hT i hi k h1; omega
    · have := hT j hj k h2; omega
    · exact hne (nodup_at hnd (by rw [hg i hi, ← h1]) (by rw [hg j hj, ← h2]))
  have hsep : ∀ k, UU n (fun j => hbs.getD j 0) Tj k → ¬ (l ≤ k ∧ k < h) ∧ k ≠ w2.heap.size ∧ k ≠ w.heap.size := by
    rintro k ⟨j, hj, h1 | h1⟩
    · have := hT j hj k h1; (try simp only [] at *); exact ⟨by omega, by omega, by omega⟩
    · have h1 : k = hbs.getD j 0 := h1
      have := hgb j hj
      refine ⟨fun hq => hlh k hq.1 hq.2 (by rw [h1]; exact mem_at (hg j hj)), by omega, by omega⟩
  refine ⟨⟨_, rfl⟩, ?_, ((((hk1.trans hk2).trans hk3).step hx4 (by intros; (try simp only [] at *); omega)).trans hk5)⟩
  refine CVC.wide (ccur_made (a := a) (b := w4.heap.size) (cmg_stp (L := L) HS hBa hn (by omega) (fun j hj k hk => (hT j hj k hk).1) (fun j hj => by have := hgb j hj; (try simp only []); omega) (by omega) (by omega) ⟨by omega, by omega⟩ ⟨by omega, by omega⟩ ((hsq.keep ((hk3.step hx4 (by intros; (try simp only [] at *); omega)).trans hk5))) (fun j hj => by rw [List.getElem?_map, hg j hj]; rfl) (hB4.keep hk5) (hB1.keep (((hk2.trans hk3).step hx4 (by intros; (try simp only [] at *); omega)).trans hk5)) hsep (fun j hj => ?_) hok (hCWs _ _ hCW (((((hk1.trans hk2).trans hk3).step hx4 (by intros; (try simp only [] at *); omega)).trans hk5).mono fun _ _ h => h.elim)) hCWs hcmp) hB5 (by omega) (Nat.le_refl _) (by omega)) (fun k hk => by omega)
  obtain ⟨y, hy1, hy2⟩ := hbk j _ (hg j hj)
  exact .inl ⟨y, zC, ((hy2.keep ((hk3.step hx4 (by intros; (try simp only [] at *); omega)).trans hk5))), (hcv j y hy1).agree (Agree.of_keep ((((hk1.trans hk2).trans hk3).step hx4 (by intros; (try simp only [] at *); omega)).trans hk5))⟩
end Go.Proofs.Ytgfficbkajcdpaa

namespace Go.Proofs.Ytgfficbkajcdpaa
open Go Go.Proofs.Ytgfficbkajcdpaa.X
set_option linter.unusedVariables false
set_option linter.unusedSimpArgs false
theorem cfresh_t {w w' : World} {v : Value} {l : List CT} (h : Fresh KCt 70 w w' v l) : ∃ A c, v = .slice A l.length c ∧ l.length ≤ c ∧ Sl KCt w.heap.size w'.heap.size w' A l.length l ∧ Keep w w' := by
  obtain ⟨A, c, h1, h2, h3⟩ := (h.1.flat KCt_flat (lo' := w.heap.size) (hi' := w'.heap.size)).sl (fun k hk hs => ⟨hs, hk⟩)
  exact ⟨A, c, h1, h2, h3, h.2⟩
-- f68 "slices.Clone[[]pedigree/api.Counted,pedigree/api.Counted]" params [64] results [64] -> [(ResultVar.tmp
set_option maxHeartbeats 4000000 in
set_option maxRecDepth 100000 in
theorem CClone_c {lo hi : Nat} {A : Option Addr} {n c : Nat} {l : List CT} (w : World) (hs : Sl KCt lo hi w A n l) (hn : n ≤ 1000000) : Ret Try.prog 68 #[.slice A n c] w fun r w' => Fresh KCt 70 w w' r l := by
  have hl := hs.len
  refine X.enter Try.func68 rfl Try.ntmps68 rfl ?_
  refine X.seq ?_
  refine X.region ?_
  refine X.opw X.wN rfl (X.assign rfl) ?_
  refine X.opsEnd ?_
  refine X.seq ?_
  refine X.seq ?_
  refine X.region ?_
  refine X.opw X.wN rfl (X.move (v := .slice _ _ _) rfl) ?_
  refine X.opB X.wN rfl rfl (X.eqNil Try.underlying64 rfl rfl) (fun h4 => ?_) (fun h4 => ?_)
  · refine X.opsEnd ?_
    refine X.condT rfl ?_
    refine X.seq ?_
    refine X.region ?_
    refine X.opw X.wN rfl (X.assign rfl) ?_
    refine X.opsEnd ?_
    refine X.ret1 Try.func68 Try.results68 rfl ?_
    refine ⟨?_, (Keep.refl _)⟩
    rcases Nat.eq_zero_or_pos n with h | h
    · have hq : l = [] := List.eq_nil_of_length_eq_zero (by omega)
      subst hq; exact (Mine.nil _ _ _ _ _ _)
    · obtain ⟨ad, e, _⟩ := hs.at_ h
      subst e; simp at h4
  · refine X.opsEnd ?_
    refine X.condF rfl ?_
    refine X.skip ?_
    refine X.seq ?_
    refine X.region ?_
    refine X.opE X.wN rfl (X.lit0E (K := KCt) (S := fun k => w.heap.size ≤ k) Try.underlying64 Try.sizeOf70 (by intros; (try simp only [] at *); omega)) ?_
    rintro v1 w1 ⟨hM1, hk1, hz1⟩
    refine X.opw X.wN rfl (X.move (v := .slice _ _ _) rfl) ?_
    refine X.opE X.wN rfl (X.appE (K := KCt) (S := fun k => w.heap.size ≤ k) KCt_flat Try.underlying64 ECt rfl rfl hM1 (hs.keep hk1) (by (try simp only [List.length_append, List.length_cons, List.length_nil, List.length_take, List.length_drop, List.length_map, List.length_range]); omega) (by intros; (try simp only [] at *); omega)) ?_
    rintro v2 w2 ⟨hM2, hx2⟩
    have hx2' := hx2.size
    refine X.opw X.wN rfl (X.assign rfl) ?_
    refine X.opsEnd ?_
    refine X.ret1 Try.func68 Try.results68 rfl ?_
    exact ⟨hM2, (hk1.step hx2 (by intros; (try simp only [] at *); omega))⟩
-- f69 "pedigree/merge.Of[pedigree/api.Counted]$1" params [] results [70, 4] -> [(ResultVar.cell 2 70), (Resul
set_option maxHeartbeats 4000000 in
set_option maxRecDepth 100000 in
theorem COf1_c (i bi br : Nat) (hne : bi ≠ br) {lo hh : Nat} {A : Option Addr} {n c : Nat} {l : List CT} (w : World) (hs : Sl KCt lo hh w A n l) (hi : i ≤ n) (hn : n ≤ 1000000) (hbi : Blk w bi [.int .i64 (i : Int)] 3) (hbr : Blk w br [.slice A n c] 64) (hd : bi < lo ∨ hh ≤ bi) : Ret Try.prog 69 #[.pointer (some ⟨bi, 0, none⟩), .pointer (some ⟨br, 0, none⟩)] w fun r w' => r = hdV evC zC (l.drop i) ∧ Ext (fun k => k = bi) w w' ∧ (l.drop i ≠ [] → i < n ∧ Blk w' bi [.int .i64 ((i + 1 : Nat) : Int)] 3) := by
  have hl := hs.len
  have hbil := hbi.lt
  have hbrl := hbr.lt
  refine X.enter Try.func69 rfl Try.ntmps69 rfl ?_
  refine X.seq ?_
  refine X.region ?_
  refine X.opE X.wN rfl (X.allocE Try.zeroValue70 rfl) ?_
  rintro _ w1 ⟨rfl, hB1, hk1, hz1⟩
  refine X.opw X.wN rfl (X.assign rfl) ?_
  refine X.opsEnd ?_
  refine X.seq ?_
  refine X.seq ?_
  refine X.region ?_
  refine X.opw X.wN rfl (X.load1B Try.isAgg3 (hbi.keep hk1) rfl rfl) ?_
  refine X.opw X.wN rfl (X.load1B Try.isAgg64 (hbr.keep hk1) rfl rfl) ?_
  refine X.opw X.wN rfl (X.lenSl Try.underlying64 rfl) ?_
  refine X.opP X.wN rfl rfl (X.eqI rfl rfl) (fun h7 => ?_) (fun h7 => ?_)
  · refine X.opsEnd ?_
    refine X.condT rfl ?_
    refine X.seq ?_
    refine X.region ?_
    refine X.opw X.wN rfl (X.loadNB Try.isAgg70 Try.sizeOf70 hB1 rfl rfl rfl) ?_
    refine X.opE X.wN rfl (X.storeNE Try.sizeOf70 hB1 rfl rfl rfl rfl (fun u hu => by simp at hu; rcases hu with rfl | rfl <;> rfl)) ?_
    rintro _ w2 ⟨hB2, hx2, hz2⟩
    refine X.opw X.wN rfl (X.assign rfl) ?_
    refine X.opsEnd ?_
    refine X.ret_unw (X.unwR2 Try.func69 Try.results69 (X.ResOk.cell rfl (X.lvN Try.isAgg70 Try.sizeOf70 hB2 rfl)) (show X.ResOk _ _ _ (.tmp 3) (.bool _) from rfl) ?_)
    rw [List.drop_of_length_le (show l.length ≤ i by omega)]
    exact ⟨rfl, (Ext.andThen (Ext.andThen (Ext.refl (fun k => k = bi) _) hk1 (by intro k h1 h2; first | exact h2.elim | omega | (simp only [] at *; omega))) hx2 (by intro k h1 h2; first | exact h2.elim | omega | (simp only [] at *; omega))), fun h => absurd rfl h⟩
  · obtain ⟨x, hx⟩ := getN i hl (by omega)
    refine X.opsEnd ?_
    refine X.condF rfl ?_
    refine X.skip ?_
    refine X.seq ?_
    refine X.region ?_
    refine X.opw X.wN rfl (X.load1B Try.isAgg3 (hbi.keep hk1) rfl rfl) ?_
    refine X.opw X.wN rfl (X.add (c := ((i + 1 : Nat) : Int)) rfl rfl (by rw [X.w_i64 (by omega)]; omega)) ?_
    refine X.opE X.wN rfl (X.storeE Try.sizeOf3 (hbi.keep hk1) rfl rfl rfl rfl) ?_
    rintro _ w3 ⟨hB3, hx3, hz3⟩
    refine X.opsEnd ?_
    refine X.seq ?_
    refine X.region ?_
    refine X.opw X.wN rfl (X.load1B Try.isAgg64 ((hbr.keep hk1).ext hx3 (by intros; (try simp only []); omega)) rfl rfl) ?_
    refine X.opw X.wN rfl (X.load1B Try.isAgg3 hB3 rfl rfl) ?_
    refine X.opw X.wN rfl (X.sub (c := (i : Int)) rfl rfl (by rw [X.w_i64 (by omega)]; omega)) ?_
    refine X.opw X.wN rfl (X.idxS ((hs.keep hk1).ext hx3 (by intros; (try simp only []); omega)) Try.underlying64 Try.sizeOf70 rfl rfl ⟨by omega, by omega⟩) ?_
    refine X.opw X.wN rfl (X.loadSN Try.isAgg70 Try.sizeOf70 ((hs.keep hk1).ext hx3 (by intros; (try simp only []); omega)) hx rfl (fun _ h => h.1) rfl) ?_
    refine X.opE X.wN rfl (X.storeNE Try.sizeOf70 (hB1.ext hx3 (by intros; (try simp only []); omega)) rfl rfl rfl rfl (fun u hu => by simp at hu; rcases hu with rfl | rfl <;> rfl)) ?_
    rintro _ w4 ⟨hB4, hx4, hz4⟩
    refine X.opw X.wN rfl (X.assign rfl) ?_
    refine X.opsEnd ?_
    refine X.ret_unw (X.unwR2 Try.func69 Try.results69 (X.ResOk.cell rfl (X.lvN Try.isAgg70 Try.sizeOf70 hB4 rfl)) (show X.ResOk _ _ _ (.tmp 3) (.bool _) from rfl) ?_)
    rw [drop_at hx]
    exact ⟨rfl, (Ext.andThen (Ext.andThen (Ext.andThen (Ext.refl (fun k => k = bi) _) hk1 (by intro k h1 h2; first | exact h2.elim | omega | (simp only [] at *; omega))) hx3 (by intro k h1 h2; first | exact h2.elim | omega | (simp only [] at *; omega))) hx4 (by intro k h1 h2; first | exact h2.elim | omega | (simp only [] at *; omega))), fun _ => ⟨by omega, (hB3.ext hx4 (by intros; (try simp only []); omega))⟩⟩
theorem CSl.agree {lo hi B : Nat} {T : Nat → Prop} {w w' : World} {A : Option Addr} {n : Nat} {l : List CT} (h : Sl KCt lo hi w A n l) (ha : Agree T B w w') (hT : ∀ k, lo ≤ k → k < hi → k < B ∨ T k) : Sl KCt lo hi w' A n l :=
  Sl.ext h ha (fun k h1 h2 h3 => (hT k h1 h2).elim (fun h => by omega) h3.2)
/-- A row's step. -/
theorem cof_stp (B a b bi br : Nat) (hne : bi ≠ br) {lo hi : Nat} {A : Option Addr} {n c : Nat} {l : List CT} (w : World) (hs : Sl KCt lo hi w A n l) (hn : n ≤ 1000000) (hbi : Blk w bi [.int .i64 0] 3) (hbr : Blk w br [.slice A n c] 64) (hd : bi < lo ∨ hi ≤ bi) (h1 : a ≤ lo) (h2 : hi ≤ b) (h3 : a ≤ bi ∧ bi < b) (h4 : a ≤ br ∧ br < b) :
    Stp Try.prog evC zC B (fun k => a ≤ k ∧ k < b) (.func (.func 69) #[] #[.pointer (some ⟨bi, 0, none⟩), .pointer (some ⟨br, 0, none⟩)]) l w := by
  refine ⟨fun xs w => ∃ i, i ≤ n ∧ xs = l.drop i ∧ Blk w bi [.int .i64 (i : Int)] 3 ∧ Blk w br [.slice A n c] 64 ∧ Sl KCt lo hi w A n l, ⟨0, Nat.zero_le _, rfl, hbi, hbr, hs⟩, ?_, ?_⟩
  · rintro xs w w' ⟨i, g1, g2, g3, g4, g5⟩ ha
    exact ⟨i, g1, g2, ha.blk g3 h3, ha.blk g4 h4, CSl.agree g5 ha fun k x y => .inr ⟨by omega, by omega⟩⟩
  · rintro xs w ⟨i, g1, rfl, g3, g4, g5⟩
    refine YC.of_ret (args := []) (cap := [_, _]) ((COf1_c i bi br hne w g5 g1 hn g3 g4 hd).mono ?_) Try.call69
    rintro r w' ⟨rfl, hx, hn'⟩
    refine ⟨rfl, hx.mono fun k _ hk => by rw [show k = bi from hk]; exact h3, fun hne' => ?_⟩
    obtain ⟨q1, q2⟩ := hn' hne'
    exact ⟨i + 1, q1, by rw [List.tail_drop], q2, g4.ext hx (fun e => hne e.symm), g5.ext hx (by intro k x y e; have e : k = bi := e; omega)⟩
-- f59 "pedigree/merge.Of[pedigree/api.Counted]" params [64] results [72] -> [(ResultVar.tmp 2)] nfree 0 ntmps
set_option maxHeartbeats 4000000 in
set_option maxRecDepth 100000 in
theorem COf_c (B : Nat) {lo hi : Nat} {A : Option Addr} {n c : Nat} {l : List CT} (w : World) (hs : Sl KCt lo hi w A n l) (hB : B ≤ w.heap.size) (hn : n ≤ 1000000) : Ret Try.prog 59 #[.slice A n c] w fun r w' => ∃ bm, r = .iface 108 (.pointer (some ⟨bm, 0, none⟩)) ∧ CVC B (fun k => w.heap.size ≤ k ∧ k < w'.heap.size) r l w' ∧ Keep w w' := by
  have hl := hs.len
  refine X.enter Try.func59 rfl Try.ntmps59 rfl ?_
  refine X.seq ?_
  refine X.region ?_
  refine X.opE X.wN rfl (X.boxE rfl rfl) ?_
  rintro _ w1 ⟨rfl, hB1, hk1, hz1⟩
  refine X.opw X.wN rfl (X.assign rfl) ?_
  refine X.opsEnd ?_
  refine X.seq ?_
  refine X.region ?_
  refine X.opw X.wN rfl (X.load1B Try.isAgg64 hB1 rfl rfl) ?_
  refine X.opE X.wN rfl (X.callE ((CClone_c _ (hs.keep hk1) hn).mono fun _ _ h => cfresh_t h) Try.call68 rfl rfl) ?_
  rintro _ w2 ⟨A2, c2, rfl, hc2, hs2, hk2⟩
  have hk2' := hk2.size
  refine X.opE X.wN rfl (X.storeE Try.sizeOf64 (hB1.keep hk2) rfl rfl rfl rfl) ?_
  rintro _ w3 ⟨hB3, hx3, hz3⟩
  refine X.opsEnd ?_
  refine X.seq ?_
  refine X.region ?_
  refine X.opE X.wN rfl (X.allocE Try.zeroValue3 rfl) ?_
  rintro _ w4 ⟨rfl, hB4, hk4, hz4⟩
  refine X.opE X.wN rfl (X.storeE Try.sizeOf3 hB4 rfl rfl rfl rfl) ?_
  rintro _ w5 ⟨hB5, hx5, hz5⟩
  refine X.opsEnd ?_
  refine X.seq ?_
  refine X.region ?_
  refine X.opw X.wN rfl (X.mkFunc rfl) ?_
  refine X.opw X.wN rfl (X.buildB (vs := [(0, .func (.func 69) #[] #[.pointer (some ⟨w3.heap.size, 0, none⟩), .pointer (some ⟨w.heap.size, 0, none⟩)])]) (cs := #[.func (.func 69) #[] #[.pointer (some ⟨w3.heap.size, 0, none⟩), .pointer (some ⟨w.heap.size, 0, none⟩)], .bool false]) rfl (by kernel_rfl)) ?_
  refine X.opE X.wN rfl (X.boxE rfl rfl) ?_
  rintro _ w6 ⟨rfl, hB6, hk6, hz6⟩
  refine X.opw X.wN rfl (X.mkIface Try.underlying108 rfl rfl) ?_
  refine X.opw X.wN rfl (X.assign rfl) ?_
  refine X.opsEnd ?_
  refine X.ret1 Try.func59 Try.results59 rfl ?_
  exact ⟨_, rfl, (ccur_made (cof_stp B w.heap.size (w3.heap.size + 1) w3.heap.size w.heap.size (by omega) _ ((hs2.ext hx3 (by intros; (try simp only []); omega)).keep ((hk4.step hx5 (by intros; (try simp only [] at *); omega)).trans hk6)) (by have := hs2.len; omega) (hB5.keep hk6) (hB3.keep ((hk4.step hx5 (by intros; (try simp only [] at *); omega)).trans hk6)) (by omega) (by omega) (by omega) (by omega) (by omega)) hB6 (by omega) (by omega) (by omega)).wide (fun k hk => by omega), (((((hk1.trans hk2).step hx3 (by intros; (try simp only [] at *); omega)).trans hk4).step hx5 (by intros; (try simp only [] at *); omega)).trans hk6)⟩
end Go.Proofs.Ytgfficbkajcdpaa

namespace Go.Proofs.Ytgfficbkajcdpaa.X
open Go
section
variable {P : Program} {ρ : Operand → Value} {w : World} {dst : Option Tmp} {ty : TypeId} {pos : String} {aft : Array Edge} {g : Option (Nat × Bool)}
theorem gtD {T T' : TypeId} {x y : Operand} {a b : ByteArray} (hx : ρ x = .string a) (hy : ρ y = .string b) : Does P ⟨dst, .binOp .gtr T x y T', ty, pos, aft, g⟩ ρ w (.bool (Op.bytesLess b.data.toList a.data.toList)) w := by
  have key : Op.bytesLess b.data.toList a.data.toList = !(Op.bytesLess a.data.toList b.data.toList || a.data.toList == b.data.toList) := by
    generalize a.data.toList = x
    generalize b.data.toList = y
    induction x generalizing y with
    | nil => cases y <;> simp [Op.bytesLess]
    | cons c x ih =>
      cases y with
      | nil => simp [Op.bytesLess]
      | cons d y =>
        simp only [Op.bytesLess]
        rw [ih y]
        by_cases h : c = d
        · subst h; simp
        · have h2 : ¬ d = c := fun e => h e.symm
          have : (d < c) ↔ ¬ (c < d) := by
            constructor
            · intro h3 h4; exact absurd (UInt8.lt_trans h3 h4) (UInt8.lt_irrefl _)
            · intro h3; exact UInt8.lt_of_le_of_ne (UInt8.not_lt.1 h3) h2
          by_cases h3 : c < d <;> simp [h, h2, h3, this]
  exact does_run rfl (by
    simp only [execOp, hx, hy, binOp, eqGuard, Op.stringOp]
    simp only [ByteArray.toList_eq, key]
    simp)
end
end Go.Proofs.Ytgfficbkajcdpaa.X

namespace Go.Proofs.Ytgfficbkajcdpaa
open Go Go.Proofs.Ytgfficbkajcdpaa.X
set_option linter.unusedVariables false
set_option linter.unusedSimpArgs false
/-- A value: its kind, its number, its symbol. -/
abbrev VAL := Int × Int × ByteArray
def encV (v : VAL) : List Value := [.int .i64 v.1, .int .i64 v.2.1, .string v.2.2]
def okI (n : Int) : Prop := -9223372036854775808 ≤ n ∧ n ≤ 9223372036854775807
def okV (v : VAL) : Prop := okI v.1 ∧ okI v.2.1 ∧ v.2.2.size ≤ 9223372036854775807
def KV : Kd VAL := Kd.plain 3 encV okV (fun _ => rfl) (fun x u hu => by simp [encV] at hu; rcases hu with rfl | rfl | rfl <;> rfl)
theorem KV_flat : Flat KV := fun h => h
theorem encV_one (x : VAL) : ∀ u, u ∈ encV x → u.oneCell' = true := fun u hu => by simp [encV] at hu; rcases hu with rfl | rfl | rfl <;> rfl
theorem KV_ok {lo hi : Nat} {w : World} {A : Option Addr} {n : Nat} {l : List VAL} (h : Sl KV lo hi w A n l) (i : Nat) (x : VAL) (hx : l[i]? = some x) : okV x := let ⟨_, _, _, hr, _⟩ := h.get i x hx; hr.2
theorem EInt : ElemInfo Try.prog 3 1 8 := ElemInfo.of (z := .int .i64 0) (by kernel_rfl) rfl rfl rfl
theorem EVal : ElemInfo Try.prog 102 3 32 := ElemInfo.of (z := .agg #[.int .i64 0, .int .i64 0, .string ⟨#[]⟩]) (by kernel_rfl) rfl rfl rfl
/-- Values compared, tuples. -/
def cmpV (a b : VAL) : Int := if a = b then 0 else if a.1 < b.1 ∨ a.1 = b.1 ∧ (a.2.1 < b.2.1 ∨ a.2.1 = b.2.1 ∧ Op.bytesLess a.2.2.data.toList b.2.2.data.toList = true) then -1 else 1
def cmpT : List VAL → List VAL → Int
  | [], [] => 0
  | [], _ :: _ => -1
  | _ :: _, [] => 1
  | a :: l, b :: m => if cmpV a b ≠ 0 then cmpV a b else cmpT l m
theorem eqV (a b : VAL) (w : World) : (Op.equalIn 10000 102 (.agg (encV a).toArray) (.agg (encV b).toArray)).run Try.prog w = .ok (decide (a = b)) w := by
  rw [run_equalIn_struct w 9999 _ _ _ (by simp [Program.fieldsOf, Try.underlying102]) (by kernel_rfl)]
  simp only [Program.fieldsOf, Try.underlying102]
  simp [Op.eqFields, part, encV, Try.isAgg100, Try.isAgg2, Try.isAgg9, run_equalIn_int _ 9998 100 .i64 .i64 _ _ Try.underlying100, run_equalIn_int _ 9998 2 .i64 .i64 _ _ Try.underlying2, run_equalIn_string _ 9998 9 _ _ Try.underlying9, str_eq]
  obtain ⟨a1, a2, a3⟩ := a
  obtain ⟨b1, b2, b3⟩ := b
  by_cases h1 : a1 = b1 <;> by_cases h2 : a2 = b2 <;> by_cases h3 : a3 = b3 <;> simp [h1, h2, h3]
theorem eqV_guard : Try.prog.eqGuardType Try.prog.depth 102 = false := by kernel_rfl
-- f60 "pedigree/pedigreeref01.Compare" params [102, 102] results [3] -> [(ResultVar.tmp 4)] nfree 0 ntmps 43 
set_option maxHeartbeats 4000000 in
set_option maxRecDepth 100000 in
theorem R01Compare_c (a b : VAL) (w : World) : Ret Try.prog 60 #[.agg (encV a).toArray, .agg (encV b).toArray] w fun r w' => r = .int .i64 (cmpV a b) ∧ Keep w w' := by
  refine X.enter Try.func60 rfl Try.ntmps60 rfl ?_
  refine X.seq ?_
  refine X.region ?_
  refine X.opE X.wN rfl (X.boxE rfl rfl) ?_
  rintro _ w1 ⟨rfl, hB1, hk1, hz1⟩
  refine X.opE X.wN rfl (X.boxE rfl rfl) ?_
  rintro _ w2 ⟨rfl, hB2, hk2, hz2⟩
  refine X.opw X.wN rfl (X.assign rfl) ?_
  refine X.opsEnd ?_
  refine X.seq ?_
  refine X.block ?_
  refine X.seq ?_
  refine X.region ?_
  refine X.opw X.wN rfl (X.loadNB Try.isAgg102 Try.sizeOf102 (hB1.keep hk2) rfl rfl rfl) ?_
  refine X.opw X.wN rfl (X.loadNB Try.isAgg102 Try.sizeOf102 hB2 rfl rfl rfl) ?_
  refine X.opw X.wN rfl (X.eqA eqV_guard rfl rfl (eqV a b _)) ?_
  refine X.opw X.wN rfl (X.assign (v := .bool _) rfl) ?_
  refine X.opsEnd ?_
  refine X.condB rfl (fun hc => ?_) (fun hc => ?_)
  · refine X.seq ?_
    refine X.region ?_
    refine X.opw X.wN rfl (X.assign rfl) ?_
    refine X.opsEnd ?_
    refine X.ret1 (v := (.int .i64 _)) Try.func60 Try.results60 rfl ?_
    exact ⟨by congr 1; simp_all [cmpV] <;> omega, (hk1.trans hk2)⟩
  · refine X.seq ?_
    refine X.region ?_
    refine X.opw X.wN rfl (X.fldB (j := 0) Try.underlying102 rfl rfl Try.sizeOf100 rfl) ?_
    refine X.opw X.wN rfl (X.load1B Try.isAgg100 (hB1.keep hk2) rfl rfl) ?_
    refine X.opw X.wN rfl (X.fldB (j := 0) Try.underlying102 rfl rfl Try.sizeOf100 rfl) ?_
    refine X.opw X.wN rfl (X.load1B Try.isAgg100 hB2 rfl rfl) ?_
    refine X.opP X.wN rfl rfl (X.lss rfl rfl) (fun h14 => ?_) (fun h14 => ?_)
    · refine X.opw X.wN rfl (X.move (v := .bool true) rfl) ?_
      refine X.opS rfl rfl rfl rfl rfl ?_
      refine X.opS rfl rfl rfl rfl rfl ?_
      refine X.opS rfl rfl rfl rfl rfl ?_
      refine X.opS rfl rfl rfl rfl rfl ?_
      refine X.opS rfl rfl rfl rfl rfl ?_
      refine X.opS rfl rfl rfl rfl rfl ?_
      refine X.opU rfl rfl rfl rfl ?_
      refine X.opU rfl rfl rfl rfl ?_
      refine X.opU rfl rfl rfl rfl ?_
      refine X.opU rfl rfl rfl rfl ?_
      refine X.opU rfl rfl rfl rfl ?_
      refine X.opU rfl rfl rfl rfl ?_
      refine X.opU rfl rfl rfl rfl ?_
      refine X.opU rfl rfl rfl rfl ?_
      refine X.opU rfl rfl rfl rfl ?_
      refine X.opU rfl rfl rfl rfl ?_
      refine X.opU rfl rfl rfl rfl ?_
      refine X.opU rfl rfl rfl rfl ?_
      refine X.opU rfl rfl rfl rfl ?_
      refine X.opU rfl rfl rfl rfl ?_
      refine X.opU rfl rfl rfl rfl ?_
      refine X.opU rfl rfl rfl rfl ?_
      refine X.opU rfl rfl rfl rfl ?_
      refine X.opU rfl rfl rfl rfl ?_
      refine X.opU rfl rfl rfl rfl ?_
      refine X.opS rfl rfl rfl rfl rfl ?_
      refine X.opw X.wN rfl (X.pickT (v := .bool true) rfl rfl) ?_
      refine X.opw X.wN rfl (X.assign (v := .bool true) rfl) ?_
      refine X.opsEnd ?_
      refine X.condT rfl ?_
      refine X.seq ?_
      refine X.region ?_
      refine X.opw X.wN rfl (X.assign rfl) ?_
      refine X.opsEnd ?_
      refine X.ret1 (v := (.int .i64 _)) Try.func60 Try.results60 rfl ?_
      exact ⟨by congr 1; simp_all [cmpV] <;> omega, (hk1.trans hk2)⟩
    · refine X.opw X.wN rfl (X.move (v := .bool false) rfl) ?_
      refine X.opw (X.wG rfl rfl rfl) rfl (X.fldB (j := 0) Try.underlying102 rfl rfl Try.sizeOf100 rfl) ?_
      refine X.opw (X.wG rfl rfl rfl) rfl (X.load1B Try.isAgg100 (hB1.keep hk2) rfl rfl) ?_
      refine X.opw (X.wG rfl rfl rfl) rfl (X.fldB (j := 0) Try.underlying102 rfl rfl Try.sizeOf100 rfl) ?_
      refine X.opw (X.wG rfl rfl rfl) rfl (X.load1B Try.isAgg100 hB2 rfl rfl) ?_
      refine X.opP (X.wG rfl rfl rfl) rfl rfl (X.eqI rfl rfl) (fun h20 => ?_) (fun h20 => ?_)
      · refine X.opw (X.wG rfl rfl rfl) rfl (X.move (v := .bool true) rfl) ?_
        refine X.opw (X.wG rfl rfl rfl) rfl (X.fldB (j := 1) Try.underlying102 rfl rfl Try.sizeOf2 rfl) ?_
        refine X.opw (X.wG rfl rfl rfl) rfl (X.load1B Try.isAgg2 (hB1.keep hk2) rfl rfl) ?_
        refine X.opw (X.wG rfl rfl rfl) rfl (X.fldB (j := 1) Try.underlying102 rfl rfl Try.sizeOf2 rfl) ?_
        refine X.opw (X.wG rfl rfl rfl) rfl (X.load1B Try.isAgg2 hB2 rfl rfl) ?_
        refine X.opP (X.wG rfl rfl rfl) rfl rfl (X.lss rfl rfl) (fun h26 => ?_) (fun h26 => ?_)
        · refine X.opw (X.wG rfl rfl rfl) rfl (X.move (v := .bool true) rfl) ?_
          refine X.opS rfl rfl rfl rfl rfl ?_
          refine X.opS rfl rfl rfl rfl rfl ?_
          refine X.opS rfl rfl rfl rfl rfl ?_
          refine X.opS rfl rfl rfl rfl rfl ?_
          refine X.opS rfl rfl rfl rfl rfl ?_
          refine X.opS rfl rfl rfl rfl rfl ?_
          refine X.opU rfl rfl rfl rfl ?_
          refine X.opU rfl rfl rfl rfl ?_
          refine X.opU rfl rfl rfl rfl ?_
          refine X.opU rfl rfl rfl rfl ?_
          refine X.opU rfl rfl rfl rfl ?_
          refine X.opS rfl rfl rfl rfl rfl ?_
          refine X.opw (X.wG rfl rfl rfl) rfl (X.pickT (v := .bool true) rfl rfl) ?_
          refine X.opw (X.wG rfl rfl rfl) rfl (X.pickT (v := .bool true) rfl rfl) ?_
          refine X.opw X.wN rfl (X.pickF (v := .bool true) rfl rfl) ?_
          refine X.opw X.wN rfl (X.assign (v := .bool true) rfl) ?_
          refine X.opsEnd ?_
          refine X.condT rfl ?_
          refine X.seq ?_
          refine X.region ?_
          refine X.opw X.wN rfl (X.assign rfl) ?_
          refine X.opsEnd ?_
          refine X.ret1 (v := (.int .i64 _)) Try.func60 Try.results60 rfl ?_
          exact ⟨by congr 1; simp_all [cmpV] <;> omega, (hk1.trans hk2)⟩
        · refine X.opw (X.wG rfl rfl rfl) rfl (X.move (v := .bool false) rfl) ?_
          refine X.opw (X.wG rfl rfl rfl) rfl (X.fldB (j := 1) Try.underlying102 rfl rfl Try.sizeOf2 rfl) ?_
          refine X.opw (X.wG rfl rfl rfl) rfl (X.load1B Try.isAgg2 (hB1.keep hk2) rfl rfl) ?_
          refine X.opw (X.wG rfl rfl rfl) rfl (X.fldB (j := 1) Try.underlying102 rfl rfl Try.sizeOf2 rfl) ?_
          refine X.opw (X.wG rfl rfl rfl) rfl (X.load1B Try.isAgg2 hB2 rfl rfl) ?_
          refine X.opP (X.wG rfl rfl rfl) rfl rfl (X.eqI rfl rfl) (fun h32 => ?_) (fun h32 => ?_)
          · refine X.opw (X.wG rfl rfl rfl) rfl (X.move (v := .bool true) rfl) ?_
            refine X.opw (X.wG rfl rfl rfl) rfl (X.fldB (j := 2) Try.underlying102 rfl rfl Try.sizeOf9 rfl) ?_
            refine X.opw (X.wG rfl rfl rfl) rfl (X.load1B Try.isAgg9 (hB1.keep hk2) rfl rfl) ?_
            refine X.opw (X.wG rfl rfl rfl) rfl (X.fldB (j := 2) Try.underlying102 rfl rfl Try.sizeOf9 rfl) ?_
            refine X.opw (X.wG rfl rfl rfl) rfl (X.load1B Try.isAgg9 hB2 rfl rfl) ?_
            refine X.opB (X.wG rfl rfl rfl) rfl rfl (X.ltD rfl rfl) (fun h38 => ?_) (fun h38 => ?_)
            · refine X.opw (X.wG rfl rfl rfl) rfl (X.pickT (v := .bool true) rfl rfl) ?_
              refine X.opw (X.wG rfl rfl rfl) rfl (X.pickF (v := .bool true) rfl rfl) ?_
              refine X.opw (X.wG rfl rfl rfl) rfl (X.pickT (v := .bool true) rfl rfl) ?_
              refine X.opw X.wN rfl (X.pickF (v := .bool true) rfl rfl) ?_
              refine X.opw X.wN rfl (X.assign (v := .bool true) rfl) ?_
              refine X.opsEnd ?_
              refine X.condT rfl ?_
              refine X.seq ?_
              refine X.region ?_
              refine X.opw X.wN rfl (X.assign rfl) ?_
              refine X.opsEnd ?_
              refine X.ret1 (v := (.int .i64 _)) Try.func60 Try.results60 rfl ?_
              exact ⟨by congr 1; simp_all [cmpV] <;> omega, (hk1.trans hk2)⟩
            · refine X.opw (X.wG rfl rfl rfl) rfl (X.pickT (v := .bool false) rfl rfl) ?_
              refine X.opw (X.wG rfl rfl rfl) rfl (X.pickF (v := .bool false) rfl rfl) ?_
              refine X.opw (X.wG rfl rfl rfl) rfl (X.pickT (v := .bool false) rfl rfl) ?_
              refine X.opw X.wN rfl (X.pickF (v := .bool false) rfl rfl) ?_
              refine X.opw X.wN rfl (X.assign (v := .bool false) rfl) ?_
              refine X.opsEnd ?_
              refine X.condF rfl ?_
              refine X.skip ?_
              refine X.inBlock ?_
              refine X.seq ?_
              refine X.region ?_
              refine X.opw X.wN rfl (X.assign rfl) ?_
              refine X.opsEnd ?_
              refine X.ret1 (v := (.int .i64 _)) Try.func60 Try.results60 rfl ?_
              exact ⟨by congr 1; simp_all [cmpV] <;> omega, (hk1.trans hk2)⟩
          · refine X.opw (X.wG rfl rfl rfl) rfl (X.move (v := .bool false) rfl) ?_
            refine X.opS rfl rfl rfl rfl rfl ?_
            refine X.opS rfl rfl rfl rfl rfl ?_
            refine X.opS rfl rfl rfl rfl rfl ?_
            refine X.opS rfl rfl rfl rfl rfl ?_
            refine X.opS rfl rfl rfl rfl rfl ?_
            refine X.opw (X.wG rfl rfl rfl) rfl (X.pickF (v := .bool false) rfl rfl) ?_
            refine X.opw (X.wG rfl rfl rfl) rfl (X.pickF (v := .bool false) rfl rfl) ?_
            refine X.opw (X.wG rfl rfl rfl) rfl (X.pickT (v := .bool false) rfl rfl) ?_
            refine X.opw X.wN rfl (X.pickF (v := .bool false) rfl rfl) ?_
            refine X.opw X.wN rfl (X.assign (v := .bool false) rfl) ?_
            refine X.opsEnd ?_
            refine X.condF rfl ?_
            refine X.skip ?_
            refine X.inBlock ?_
            refine X.seq ?_
            refine X.region ?_
            refine X.opw X.wN rfl (X.assign rfl) ?_
            refine X.opsEnd ?_
            refine X.ret1 (v := (.int .i64 _)) Try.func60 Try.results60 rfl ?_
            exact ⟨by congr 1; simp_all [cmpV] <;> omega, (hk1.trans hk2)⟩
      · refine X.opw (X.wG rfl rfl rfl) rfl (X.move (v := .bool false) rfl) ?_
        refine X.opS rfl rfl rfl rfl rfl ?_
        refine X.opS rfl rfl rfl rfl rfl ?_
        refine X.opS rfl rfl rfl rfl rfl ?_
        refine X.opS rfl rfl rfl rfl rfl ?_
        refine X.opS rfl rfl rfl rfl rfl ?_
        refine X.opS rfl rfl rfl rfl rfl ?_
        refine X.opU rfl rfl rfl rfl ?_
        refine X.opU rfl rfl rfl rfl ?_
        refine X.opU rfl rfl rfl rfl ?_
        refine X.opU rfl rfl rfl rfl ?_
        refine X.opU rfl rfl rfl rfl ?_
        refine X.opU rfl rfl rfl rfl ?_
        refine X.opU rfl rfl rfl rfl ?_
        refine X.opU rfl rfl rfl rfl ?_
        refine X.opU rfl rfl rfl rfl ?_
        refine X.opU rfl rfl rfl rfl ?_
        refine X.opU rfl rfl rfl rfl ?_
        refine X.opU rfl rfl rfl rfl ?_
        refine X.opS rfl rfl rfl rfl rfl ?_
        refine X.opw (X.wG rfl rfl rfl) rfl (X.pickF (v := .bool false) rfl rfl) ?_
        refine X.opw X.wN rfl (X.pickF (v := .bool false) rfl rfl) ?_
        refine X.opw X.wN rfl (X.assign (v := .bool false) rfl) ?_
        refine X.opsEnd ?_
        refine X.condF rfl ?_
        refine X.skip ?_
        refine X.inBlock ?_
        refine X.seq ?_
        refine X.region ?_
        refine X.opw X.wN rfl (X.assign rfl) ?_
        refine X.opsEnd ?_
        refine X.ret1 (v := (.int .i64 _)) Try.func60 Try.results60 rfl ?_
        exact ⟨by congr 1; simp_all [cmpV] <;> omega, (hk1.trans hk2)⟩
theorem cmp_end {l1 l2 : List VAL} {i : Nat} (h1 : i ≤ l1.length) (h2 : i ≤ l2.length) (h : i = l1.length ∨ i = l2.length) : cmpT (l1.drop i) (l2.drop i) = if l1.length < l2.length then -1 else if l2.length < l1.length then 1 else 0 := by
  have e1 : (l1.drop i).length = l1.length - i := List.length_drop
  have e2 : (l2.drop i).length = l2.length - i := List.length_drop
  generalize l1.drop i = x at *
  generalize l2.drop i = y at *
  cases x <;> cases y <;> simp only [List.length_cons, List.length_nil] at e1 e2 <;> unfold cmpT
  · rw [if_neg (by omega), if_neg (by omega)]
  · rw [if_pos (by omega)]
  · rw [if_neg (by omega), if_pos (by omega)]
  · omega
-- f43 "pedigree/pedigreeref02.Compare" params [68, 68] results [3] -> [(ResultVar.tmp 4)] nfree 0 ntmps 43 na
set_option maxHeartbeats 4000000 in
set_option maxRecDepth 100000 in
theorem R02Compare_c {lo1 hi1 lo2 hi2 : Nat} {A1 A2 : Option Addr} {n1 n2 c1 c2 : Nat} {l1 l2 : List VAL} (w : World) (hs1 : Sl KV lo1 hi1 w A1 n1 l1) (hs2 : Sl KV lo2 hi2 w A2 n2 l2) : Ret Try.prog 43 #[.slice A1 n1 c1, .slice A2 n2 c2] w fun r w' => r = .int .i64 (cmpT l1 l2) ∧ Keep w w' := by
  have hn1 := hs1.bound
  have hl1 := hs1.len
  have hn2 := hs2.bound
  have hl2 := hs2.len
  refine X.enter Try.func43 rfl Try.ntmps43 rfl ?_
  refine X.seq ?_
  refine X.region ?_
  refine X.opw X.wN rfl (X.assign rfl) ?_
  refine X.opsEnd ?_
  refine X.seq ?_
  refine X.seq ?_
  refine X.region ?_
  refine X.opw X.wN rfl (X.assign rfl) ?_
  refine X.opsEnd ?_
  refine X.block ?_
  -- LOOP live: 0=a, 1=b, 5=i*
  refine X.loopL (σ := Nat) (fun s => [(0, .slice A1 n1 c1), (1, .slice A2 n2 c2), (5, .int .i64 (s : Int))]) (fun s w' => s ≤ n1 ∧ s ≤ n2 ∧ cmpT (l1.drop s) (l2.drop s) = cmpT l1 l2 ∧ Keep w w') (fun s => n1 - s) 0 ⟨rfl, rfl, rfl, trivial⟩ ⟨Nat.zero_le _, Nat.zero_le _, rfl, (Keep.refl _)⟩ ?_
  rintro i b w1 ⟨hi1, hi2, hcm, hk⟩ hback
  have hk' := hk.size
  refine X.seq ?_
  refine X.seq ?_
  refine X.region ?_
  refine X.opw X.wN rfl (X.move (v := .int .i64 _) rfl) ?_
  refine X.opw X.wN rfl (X.move (v := .slice _ _ _) rfl) ?_
  refine X.opw X.wN rfl (X.lenSl Try.underlying68 rfl) ?_
  refine X.opP X.wN rfl rfl (X.lss rfl rfl) (fun h10 => ?_) (fun h10 => ?_)
  · refine X.opw X.wN rfl (X.move (v := .bool true) rfl) ?_
    refine X.opw (X.wG rfl rfl rfl) rfl (X.move (v := .int .i64 _) rfl) ?_
    refine X.opw (X.wG rfl rfl rfl) rfl (X.move (v := .slice _ _ _) rfl) ?_
    refine X.opw (X.wG rfl rfl rfl) rfl (X.lenSl Try.underlying68 rfl) ?_
    refine X.opP (X.wG rfl rfl rfl) rfl rfl (X.lss rfl rfl) (fun h15 => ?_) (fun h15 => ?_)
    · obtain ⟨x, hx⟩ := getN i hl1 h10
      obtain ⟨y, hy⟩ := getN i hl2 h15
      rw [drop_at hx, drop_at hy, cmpT] at hcm
      refine X.opw X.wN rfl (X.pickT (v := .bool true) rfl rfl) ?_
      refine X.opsEnd ?_
      refine X.condT rfl ?_
      refine X.skip ?_
      refine X.seq ?_
      refine X.block ?_
      refine X.seq ?_
      refine X.regionD (fun _ => False) 9 (by kernel_rfl) (by kernel_rfl) (fun w1 hk1 hz1 => ?_)
      refine X.dTake 0 rfl (by kernel_rfl) (by kernel_rfl) (by kernel_rfl) (X.dwN rfl) (fun w' hk' => X.move (v := .slice _ _ _) rfl) ?_
      refine X.dTake 1 rfl (by kernel_rfl) (by kernel_rfl) (by kernel_rfl) (X.dwN rfl) (fun w' hk' => X.move (v := .int .i64 _) rfl) ?_
      refine X.dTake 2 rfl (by kernel_rfl) (by kernel_rfl) (by kernel_rfl) (X.dwN rfl) (fun w' hk' => X.idxS (hs1.keep ((hk.trans hk1).trans hk')) Try.underlying68 Try.sizeOf102 rfl rfl ⟨by omega, by omega⟩) ?_
      refine X.dTake 3 rfl (by kernel_rfl) (by kernel_rfl) (by kernel_rfl) (X.dwN rfl) (fun w' hk' => X.loadSN Try.isAgg102 Try.sizeOf102 (hs1.keep ((hk.trans hk1).trans hk')) hx rfl (fun _ h => h.1) rfl) ?_
      refine X.dTake 4 rfl (by kernel_rfl) (by kernel_rfl) (by kernel_rfl) (X.dwN rfl) (fun w' hk' => X.move (v := .slice _ _ _) rfl) ?_
      refine X.dTake 5 rfl (by kernel_rfl) (by kernel_rfl) (by kernel_rfl) (X.dwN rfl) (fun w' hk' => X.move (v := .int .i64 _) rfl) ?_
      refine X.dTake 6 rfl (by kernel_rfl) (by kernel_rfl) (by kernel_rfl) (X.dwN rfl) (fun w' hk' => X.idxS (hs2.keep ((hk.trans hk1).trans hk')) Try.underlying68 Try.sizeOf102 rfl rfl ⟨by omega, by omega⟩) ?_
      refine X.dTake 7 rfl (by kernel_rfl) (by kernel_rfl) (by kernel_rfl) (X.dwN rfl) (fun w' hk' => X.loadSN Try.isAgg102 Try.sizeOf102 (hs2.keep ((hk.trans hk1).trans hk')) hy rfl (fun _ h => h.1) rfl) ?_
      refine X.dE (i := 8) (by kernel_rfl) rfl (X.dwN rfl) (X.callE (R01Compare_c x y _) Try.call60 rfl rfl) (by rintro _ w2 ⟨rfl, hk2⟩ _; exact hk2.mono (fun _ _ h => h.elim)) ?_
      rintro _ w2 ⟨rfl, hk2⟩
      have hk2' := hk2.size
      refine X.dStep (i := 9) (by kernel_rfl) rfl (X.dwN rfl) (X.assign (v := .int .i64 _) rfl) (fun h => absurd h (by decide)) ?_
      refine X.dEnd (by kernel_rfl) ?_
      refine X.seq ?_
      refine X.region ?_
      refine X.opw X.wN rfl (X.move (v := .int .i64 _) rfl) ?_
      refine X.opP X.wN rfl rfl (X.neI rfl rfl) (fun h29 => ?_) (fun h29 => ?_)
      · refine X.opsEnd ?_
        refine X.condT rfl ?_
        refine X.seq ?_
        refine X.region ?_
        refine X.opw X.wN rfl (X.move (v := .int .i64 _) rfl) ?_
        refine X.opw X.wN rfl (X.assign (v := .int .i64 _) rfl) ?_
        refine X.opsEnd ?_
        refine X.ret1 (v := (.int .i64 _)) Try.func43 Try.results43 rfl ?_
        exact ⟨by rw [if_pos h29] at hcm; rw [hcm], ((hk.trans hk1).trans hk2)⟩
      · refine X.opsEnd ?_
        refine X.condF rfl ?_
        refine X.skip ?_
        refine X.inBlock ?_
        refine X.region ?_
        refine X.opw X.wN rfl (X.move (v := .int .i64 _) rfl) ?_
        refine X.opw X.wN rfl (X.add rfl rfl (X.w_i64 (by omega))) ?_
        refine X.opw X.wN rfl (X.assign (v := .int .i64 _) rfl) ?_
        refine X.opsEnd ?_
        refine hback (i + 1) _ _ ⟨rfl, rfl, rfl, trivial⟩ ⟨by omega, by omega, by rw [if_neg h29] at hcm; exact hcm, ((hk.trans hk1).trans hk2)⟩ (by omega)
    · refine X.opw X.wN rfl (X.pickT (v := .bool false) rfl rfl) ?_
      refine X.opsEnd ?_
      refine X.condF rfl ?_
      refine X.exit rfl ?_
      refine X.seq ?_
      refine X.block ?_
      refine X.seq ?_
      refine X.region ?_
      refine X.opw X.wN rfl (X.move (v := .slice _ _ _) rfl) ?_
      refine X.opw X.wN rfl (X.lenSl Try.underlying68 rfl) ?_
      refine X.opw X.wN rfl (X.move (v := .slice _ _ _) rfl) ?_
      refine X.opw X.wN rfl (X.lenSl Try.underlying68 rfl) ?_
      refine X.opP X.wN rfl rfl (X.lss rfl rfl) (fun h36 => ?_) (fun h36 => ?_)
      · refine X.opw X.wN rfl (X.assign (v := .bool true) rfl) ?_
        refine X.opsEnd ?_
        refine X.condT rfl ?_
        refine X.seq ?_
        refine X.region ?_
        refine X.opw X.wN rfl (X.assign rfl) ?_
        refine X.opsEnd ?_
        refine X.ret1 (v := (.int .i64 _)) Try.func43 Try.results43 rfl ?_
        exact ⟨by congr 1; rw [← hcm, cmp_end (by omega) (by omega) (by omega)]; (repeat' split) <;> omega, hk⟩
      · refine X.opw X.wN rfl (X.assign (v := .bool false) rfl) ?_
        refine X.opsEnd ?_
        refine X.condF rfl ?_
        refine X.seq ?_
        refine X.region ?_
        refine X.opw X.wN rfl (X.move (v := .slice _ _ _) rfl) ?_
        refine X.opw X.wN rfl (X.lenSl Try.underlying68 rfl) ?_
        refine X.opw X.wN rfl (X.move (v := .slice _ _ _) rfl) ?_
        refine X.opw X.wN rfl (X.lenSl Try.underlying68 rfl) ?_
        refine X.opP X.wN rfl rfl (X.gtr rfl rfl) (fun h42 => ?_) (fun h42 => ?_)
        · refine X.opw X.wN rfl (X.assign (v := .bool true) rfl) ?_
          refine X.opsEnd ?_
          refine X.condT rfl ?_
          refine X.seq ?_
          refine X.region ?_
          refine X.opw X.wN rfl (X.assign rfl) ?_
          refine X.opsEnd ?_
          refine X.ret1 (v := (.int .i64 _)) Try.func43 Try.results43 rfl ?_
          exact ⟨by congr 1; rw [← hcm, cmp_end (by omega) (by omega) (by omega)]; (repeat' split) <;> omega, hk⟩
        · refine X.opw X.wN rfl (X.assign (v := .bool false) rfl) ?_
          refine X.opsEnd ?_
          refine X.condF rfl ?_
          refine X.skip ?_
          refine X.inBlock ?_
          refine X.seq ?_
          refine X.region ?_
          refine X.opw X.wN rfl (X.assign rfl) ?_
          refine X.opsEnd ?_
          refine X.ret1 (v := (.int .i64 _)) Try.func43 Try.results43 rfl ?_
          exact ⟨by congr 1; rw [← hcm, cmp_end (by omega) (by omega) (by omega)]; (repeat' split) <;> omega, hk⟩
  · refine X.opw X.wN rfl (X.move (v := .bool false) rfl) ?_
    refine X.opS rfl rfl rfl rfl rfl ?_
    refine X.opS rfl rfl rfl rfl rfl ?_
    refine X.opS rfl rfl rfl rfl rfl ?_
    refine X.opS rfl rfl rfl rfl rfl ?_
    refine X.opw X.wN rfl (X.pickF (v := .bool false) rfl rfl) ?_
    refine X.opsEnd ?_
    refine X.condF rfl ?_
    refine X.exit rfl ?_
    refine X.seq ?_
    refine X.block ?_
    refine X.seq ?_
    refine X.region ?_
    refine X.opw X.wN rfl (X.move (v := .slice _ _ _) rfl) ?_
    refine X.opw X.wN rfl (X.lenSl Try.underlying68 rfl) ?_
    refine X.opw X.wN rfl (X.move (v := .slice _ _ _) rfl) ?_
    refine X.opw X.wN rfl (X.lenSl Try.underlying68 rfl) ?_
    refine X.opP X.wN rfl rfl (X.lss rfl rfl) (fun h36 => ?_) (fun h36 => ?_)
    · refine X.opw X.wN rfl (X.assign (v := .bool true) rfl) ?_
      refine X.opsEnd ?_
      refine X.condT rfl ?_
      refine X.seq ?_
      refine X.region ?_
      refine X.opw X.wN rfl (X.assign rfl) ?_
      refine X.opsEnd ?_
      refine X.ret1 (v := (.int .i64 _)) Try.func43 Try.results43 rfl ?_
      exact ⟨by congr 1; rw [← hcm, cmp_end (by omega) (by omega) (by omega)]; (repeat' split) <;> omega, hk⟩
    · refine X.opw X.wN rfl (X.assign (v := .bool false) rfl) ?_
      refine X.opsEnd ?_
      refine X.condF rfl ?_
      refine X.seq ?_
      refine X.region ?_
      refine X.opw X.wN rfl (X.move (v := .slice _ _ _) rfl) ?_
      refine X.opw X.wN rfl (X.lenSl Try.underlying68 rfl) ?_
      refine X.opw X.wN rfl (X.move (v := .slice _ _ _) rfl) ?_
      refine X.opw X.wN rfl (X.lenSl Try.underlying68 rfl) ?_
      refine X.opP X.wN rfl rfl (X.gtr rfl rfl) (fun h42 => ?_) (fun h42 => ?_)
      · refine X.opw X.wN rfl (X.assign (v := .bool true) rfl) ?_
        refine X.opsEnd ?_
        refine X.condT rfl ?_
        refine X.seq ?_
        refine X.region ?_
        refine X.opw X.wN rfl (X.assign rfl) ?_
        refine X.opsEnd ?_
        refine X.ret1 (v := (.int .i64 _)) Try.func43 Try.results43 rfl ?_
        exact ⟨by congr 1; rw [← hcm, cmp_end (by omega) (by omega) (by omega)]; (repeat' split) <;> omega, hk⟩
      · refine X.opw X.wN rfl (X.assign (v := .bool false) rfl) ?_
        refine X.opsEnd ?_
        refine X.condF rfl ?_
        refine X.skip ?_
        refine X.inBlock ?_
        refine X.seq ?_
        refine X.region ?_
        refine X.opw X.wN rfl (X.assign rfl) ?_
        refine X.opsEnd ?_
        refine X.ret1 (v := (.int .i64 _)) Try.func43 Try.results43 rfl ?_
        exact ⟨by congr 1; rw [← hcm, cmp_end (by omega) (by omega) (by omega)]; (repeat' split) <;> omega, hk⟩
-- f80 "cmp.isNaN[pedigree/api.VKind]" params [100] results [4] -> [(ResultVar.tmp 2)] nfree 0 ntmps 6 names [
set_option maxHeartbeats 4000000 in
set_option maxRecDepth 100000 in
theorem isNaNKind_c (a : Int) (w : World) : Ret Try.prog 80 #[.int .i64 a] w fun r w' => r = .bool false ∧ Keep w w' := by
  refine X.enter Try.func80 rfl Try.ntmps80 rfl ?_
  refine X.seq ?_
  refine X.region ?_
  refine X.opw X.wN rfl (X.assign rfl) ?_
  refine X.opsEnd ?_
  refine X.seq ?_
  refine X.region ?_
  refine X.opw X.wN rfl (X.move (v := .int .i64 _) rfl) ?_
  refine X.opw X.wN rfl (X.move (v := .int .i64 _) rfl) ?_
  refine X.opw X.wN rfl (X.neI rfl rfl) ?_
  refine X.opw X.wN rfl (X.assign (v := .bool _) rfl) ?_
  refine X.opsEnd ?_
  refine X.ret1 (v := (.bool _)) Try.func80 Try.results80 rfl ?_
  exact ⟨by simp, (Keep.refl _)⟩
-- f81 "cmp.isNaN[int64]" params [2] results [4] -> [(ResultVar.tmp 2)] nfree 0 ntmps 6 names ["x", "x", "", "
set_option maxHeartbeats 4000000 in
set_option maxRecDepth 100000 in
theorem isNaNNum_c (a : Int) (w : World) : Ret Try.prog 81 #[.int .i64 a] w fun r w' => r = .bool false ∧ Keep w w' := by
  refine X.enter Try.func81 rfl Try.ntmps81 rfl ?_
  refine X.seq ?_
  refine X.region ?_
  refine X.opw X.wN rfl (X.assign rfl) ?_
  refine X.opsEnd ?_
  refine X.seq ?_
  refine X.region ?_
  refine X.opw X.wN rfl (X.move (v := .int .i64 _) rfl) ?_
  refine X.opw X.wN rfl (X.move (v := .int .i64 _) rfl) ?_
  refine X.opw X.wN rfl (X.neI rfl rfl) ?_
  refine X.opw X.wN rfl (X.assign (v := .bool _) rfl) ?_
  refine X.opsEnd ?_
  refine X.ret1 (v := (.bool _)) Try.func81 Try.results81 rfl ?_
  exact ⟨by simp, (Keep.refl _)⟩
-- f82 "cmp.isNaN[string]" params [9] results [4] -> [(ResultVar.tmp 2)] nfree 0 ntmps 6 names ["x", "x", "", 
set_option maxHeartbeats 4000000 in
set_option maxRecDepth 100000 in
theorem isNaNStr_c (a : ByteArray) (w : World) : Ret Try.prog 82 #[.string a] w fun r w' => r = .bool false ∧ Keep w w' := by
  refine X.enter Try.func82 rfl Try.ntmps82 rfl ?_
  refine X.seq ?_
  refine X.region ?_
  refine X.opw X.wN rfl (X.assign rfl) ?_
  refine X.opsEnd ?_
  refine X.seq ?_
  refine X.region ?_
  refine X.opw X.wN rfl (X.move (v := .string _) rfl) ?_
  refine X.opw X.wN rfl (X.move (v := .string _) rfl) ?_
  refine X.opw X.wN rfl (X.neD rfl rfl) ?_
  refine X.opw X.wN rfl (X.assign (v := .bool _) rfl) ?_
  refine X.opsEnd ?_
  refine X.ret1 (v := (.bool _)) Try.func82 Try.results82 rfl ?_
  exact ⟨by simp, (Keep.refl _)⟩
def cmp3 (a b : Int) : Int := if a < b then -1 else if b < a then 1 else 0
def cmpS (a b : ByteArray) : Int := if Op.bytesLess a.data.toList b.data.toList then -1 else if Op.bytesLess b.data.toList a.data.toList then 1 else 0
def orI : List Int → Int
  | [] => 0
  | x :: l => if x ≠ 0 then x else orI l
theorem cmp3_ok (a b : Int) : okI (cmp3 a b) := by unfold cmp3 okI; (repeat' split) <;> omega
theorem cmpS_ok (a b : ByteArray) : okI (cmpS a b) := by unfold cmpS okI; (repeat' split) <;> omega
-- f77 "cmp.Compare[pedigree/api.VKind]" params [100, 100] results [3] -> [(ResultVar.tmp 4)] nfree 0 ntmps 20
set_option maxHeartbeats 4000000 in
set_option maxRecDepth 100000 in
theorem cmpKind_c (a b : Int) (w : World) : Ret Try.prog 77 #[.int .i64 a, .int .i64 b] w fun r w' => r = .int .i64 (cmp3 a b) ∧ Keep w w' := by
  refine X.enter Try.func77 rfl Try.ntmps77 rfl ?_
  refine X.seq ?_
  refine X.region ?_
  refine X.opw X.wN rfl (X.assign rfl) ?_
  refine X.opsEnd ?_
  refine X.seq ?_
  refine X.region ?_
  refine X.opw X.wN rfl (X.move (v := .int .i64 _) rfl) ?_
  refine X.opE X.wN rfl (X.callE (isNaNKind_c _ _) Try.call80 rfl rfl) ?_
  rintro _ w1 ⟨rfl, hk1⟩
  have hk1' := hk1.size
  refine X.opw X.wN rfl (X.assign (v := .bool _) rfl) ?_
  refine X.opsEnd ?_
  refine X.seq ?_
  refine X.region ?_
  refine X.opw X.wN rfl (X.move (v := .int .i64 _) rfl) ?_
  refine X.opE X.wN rfl (X.callE (isNaNKind_c _ _) Try.call80 rfl rfl) ?_
  rintro _ w2 ⟨rfl, hk2⟩
  have hk2' := hk2.size
  refine X.opw X.wN rfl (X.assign (v := .bool _) rfl) ?_
  refine X.opsEnd ?_
  refine X.seq ?_
  refine X.seq ?_
  refine X.region ?_
  refine X.opw X.wN rfl (X.move (v := .bool _) rfl) ?_
  refine X.opsEnd ?_
  refine X.condB rfl (fun hc => ?_) (fun hc => ?_)
  · cases hc
  · refine X.skip ?_
    refine X.seq ?_
    refine X.seq ?_
    refine X.region ?_
    refine X.opw X.wN rfl (X.move (v := .bool _) rfl) ?_
    refine X.opsEnd ?_
    refine X.condB rfl (fun hd => ?_) (fun hd => ?_)
    · cases hd
    · refine X.skip ?_
      refine X.seq ?_
      refine X.seq ?_
      refine X.region ?_
      refine X.opw X.wN rfl (X.move (v := .int .i64 _) rfl) ?_
      refine X.opw X.wN rfl (X.move (v := .int .i64 _) rfl) ?_
      refine X.opP X.wN rfl rfl (X.lss rfl rfl) (fun h16 => ?_) (fun h16 => ?_)
      · refine X.opsEnd ?_
        refine X.condT rfl ?_
        refine X.seq ?_
        refine X.region ?_
        refine X.opw X.wN rfl (X.assign rfl) ?_
        refine X.opsEnd ?_
        refine X.ret1 (v := (.int .i64 _)) Try.func77 Try.results77 rfl ?_
        exact ⟨by congr 1; unfold cmp3; (repeat' split) <;> omega, (hk1.trans hk2)⟩
      · refine X.opsEnd ?_
        refine X.condF rfl ?_
        refine X.skip ?_
        refine X.seq ?_
        refine X.seq ?_
        refine X.region ?_
        refine X.opw X.wN rfl (X.move (v := .int .i64 _) rfl) ?_
        refine X.opw X.wN rfl (X.move (v := .int .i64 _) rfl) ?_
        refine X.opP X.wN rfl rfl (X.gtr rfl rfl) (fun h19 => ?_) (fun h19 => ?_)
        · refine X.opsEnd ?_
          refine X.condT rfl ?_
          refine X.seq ?_
          refine X.region ?_
          refine X.opw X.wN rfl (X.assign rfl) ?_
          refine X.opsEnd ?_
          refine X.ret1 (v := (.int .i64 _)) Try.func77 Try.results77 rfl ?_
          exact ⟨by congr 1; unfold cmp3; (repeat' split) <;> omega, (hk1.trans hk2)⟩
        · refine X.opsEnd ?_
          refine X.condF rfl ?_
          refine X.skip ?_
          refine X.seq ?_
          refine X.region ?_
          refine X.opw X.wN rfl (X.assign rfl) ?_
          refine X.opsEnd ?_
          refine X.ret1 (v := (.int .i64 _)) Try.func77 Try.results77 rfl ?_
          exact ⟨by congr 1; unfold cmp3; (repeat' split) <;> omega, (hk1.trans hk2)⟩
-- f78 "cmp.Compare[int64]" params [2, 2] results [3] -> [(ResultVar.tmp 4)] nfree 0 ntmps 20 names ["x", "y",
set_option maxHeartbeats 4000000 in
set_option maxRecDepth 100000 in
theorem cmpNum_c (a b : Int) (w : World) : Ret Try.prog 78 #[.int .i64 a, .int .i64 b] w fun r w' => r = .int .i64 (cmp3 a b) ∧ Keep w w' := by
  refine X.enter Try.func78 rfl Try.ntmps78 rfl ?_
  refine X.seq ?_
  refine X.region ?_
  refine X.opw X.wN rfl (X.assign rfl) ?_
  refine X.opsEnd ?_
  refine X.seq ?_
  refine X.region ?_
  refine X.opw X.wN rfl (X.move (v := .int .i64 _) rfl) ?_
  refine X.opE X.wN rfl (X.callE (isNaNNum_c _ _) Try.call81 rfl rfl) ?_
  rintro _ w1 ⟨rfl, hk1⟩
  have hk1' := hk1.size
  refine X.opw X.wN rfl (X.assign (v := .bool _) rfl) ?_
  refine X.opsEnd ?_
  refine X.seq ?_
  refine X.region ?_
  refine X.opw X.wN rfl (X.move (v := .int .i64 _) rfl) ?_
  refine X.opE X.wN rfl (X.callE (isNaNNum_c _ _) Try.call81 rfl rfl) ?_
  rintro _ w2 ⟨rfl, hk2⟩
  have hk2' := hk2.size
  refine X.opw X.wN rfl (X.assign (v := .bool _) rfl) ?_
  refine X.opsEnd ?_
  refine X.seq ?_
  refine X.seq ?_
  refine X.region ?_
  refine X.opw X.wN rfl (X.move (v := .bool _) rfl) ?_
  refine X.opsEnd ?_
  refine X.condB rfl (fun hc => ?_) (fun hc => ?_)
  · cases hc
  · refine X.skip ?_
    refine X.seq ?_
    refine X.seq ?_
    refine X.region ?_
    refine X.opw X.wN rfl (X.move (v := .bool _) rfl) ?_
    refine X.opsEnd ?_
    refine X.condB rfl (fun hd => ?_) (fun hd => ?_)
    · cases hd
    · refine X.skip ?_
      refine X.seq ?_
      refine X.seq ?_
      refine X.region ?_
      refine X.opw X.wN rfl (X.move (v := .int .i64 _) rfl) ?_
      refine X.opw X.wN rfl (X.move (v := .int .i64 _) rfl) ?_
      refine X.opP X.wN rfl rfl (X.lss rfl rfl) (fun h16 => ?_) (fun h16 => ?_)
      · refine X.opsEnd ?_
        refine X.condT rfl ?_
        refine X.seq ?_
        refine X.region ?_
        refine X.opw X.wN rfl (X.assign rfl) ?_
        refine X.opsEnd ?_
        refine X.ret1 (v := (.int .i64 _)) Try.func78 Try.results78 rfl ?_
        exact ⟨by congr 1; unfold cmp3; (repeat' split) <;> omega, (hk1.trans hk2)⟩
      · refine X.opsEnd ?_
        refine X.condF rfl ?_
        refine X.skip ?_
        refine X.seq ?_
        refine X.seq ?_
        refine X.region ?_
        refine X.opw X.wN rfl (X.move (v := .int .i64 _) rfl) ?_
        refine X.opw X.wN rfl (X.move (v := .int .i64 _) rfl) ?_
        refine X.opP X.wN rfl rfl (X.gtr rfl rfl) (fun h19 => ?_) (fun h19 => ?_)
        · refine X.opsEnd ?_
          refine X.condT rfl ?_
          refine X.seq ?_
          refine X.region ?_
          refine X.opw X.wN rfl (X.assign rfl) ?_
          refine X.opsEnd ?_
          refine X.ret1 (v := (.int .i64 _)) Try.func78 Try.results78 rfl ?_
          exact ⟨by congr 1; unfold cmp3; (repeat' split) <;> omega, (hk1.trans hk2)⟩
        · refine X.opsEnd ?_
          refine X.condF rfl ?_
          refine X.skip ?_
          refine X.seq ?_
          refine X.region ?_
          refine X.opw X.wN rfl (X.assign rfl) ?_
          refine X.opsEnd ?_
          refine X.ret1 (v := (.int .i64 _)) Try.func78 Try.results78 rfl ?_
          exact ⟨by congr 1; unfold cmp3; (repeat' split) <;> omega, (hk1.trans hk2)⟩
-- f79 "cmp.Compare[string]" params [9, 9] results [3] -> [(ResultVar.tmp 4)] nfree 0 ntmps 20 names ["x", "y"
set_option maxHeartbeats 4000000 in
set_option maxRecDepth 100000 in
theorem cmpStr_c (a b : ByteArray) (w : World) : Ret Try.prog 79 #[.string a, .string b] w fun r w' => r = .int .i64 (cmpS a b) ∧ Keep w w' := by
  refine X.enter Try.func79 rfl Try.ntmps79 rfl ?_
  refine X.seq ?_
  refine X.region ?_
  refine X.opw X.wN rfl (X.assign rfl) ?_
  refine X.opsEnd ?_
  refine X.seq ?_
  refine X.region ?_
  refine X.opw X.wN rfl (X.move (v := .string _) rfl) ?_
  refine X.opE X.wN rfl (X.callE (isNaNStr_c _ _) Try.call82 rfl rfl) ?_
  rintro _ w1 ⟨rfl, hk1⟩
  have hk1' := hk1.size
  refine X.opw X.wN rfl (X.assign (v := .bool _) rfl) ?_
  refine X.opsEnd ?_
  refine X.seq ?_
  refine X.region ?_
  refine X.opw X.wN rfl (X.move (v := .string _) rfl) ?_
  refine X.opE X.wN rfl (X.callE (isNaNStr_c _ _) Try.call82 rfl rfl) ?_
  rintro _ w2 ⟨rfl, hk2⟩
  have hk2' := hk2.size
  refine X.opw X.wN rfl (X.assign (v := .bool _) rfl) ?_
  refine X.opsEnd ?_
  refine X.seq ?_
  refine X.seq ?_
  refine X.region ?_
  refine X.opw X.wN rfl (X.move (v := .bool _) rfl) ?_
  refine X.opsEnd ?_
  refine X.condB rfl (fun hc => ?_) (fun hc => ?_)
  · cases hc
  · refine X.skip ?_
    refine X.seq ?_
    refine X.seq ?_
    refine X.region ?_
    refine X.opw X.wN rfl (X.move (v := .bool _) rfl) ?_
    refine X.opsEnd ?_
    refine X.condB rfl (fun hd => ?_) (fun hd => ?_)
    · cases hd
    · refine X.skip ?_
      refine X.seq ?_
      refine X.seq ?_
      refine X.region ?_
      refine X.opw X.wN rfl (X.move (v := .string _) rfl) ?_
      refine X.opw X.wN rfl (X.move (v := .string _) rfl) ?_
      refine X.opB X.wN rfl rfl (X.ltD rfl rfl) (fun h16 => ?_) (fun h16 => ?_)
      · refine X.opsEnd ?_
        refine X.condT rfl ?_
        refine X.seq ?_
        refine X.region ?_
        refine X.opw X.wN rfl (X.assign rfl) ?_
        refine X.opsEnd ?_
        refine X.ret1 (v := (.int .i64 _)) Try.func79 Try.results79 rfl ?_
        exact ⟨by congr 1; unfold cmpS; simp_all, (hk1.trans hk2)⟩
      · refine X.opsEnd ?_
        refine X.condF rfl ?_
        refine X.skip ?_
        refine X.seq ?_
        refine X.seq ?_
        refine X.region ?_
        refine X.opw X.wN rfl (X.move (v := .string _) rfl) ?_
        refine X.opw X.wN rfl (X.move (v := .string _) rfl) ?_
        refine X.opB X.wN rfl rfl (X.gtD rfl rfl) (fun h19 => ?_) (fun h19 => ?_)
        · refine X.opsEnd ?_
          refine X.condT rfl ?_
          refine X.seq ?_
          refine X.region ?_
          refine X.opw X.wN rfl (X.assign rfl) ?_
          refine X.opsEnd ?_
          refine X.ret1 (v := (.int .i64 _)) Try.func79 Try.results79 rfl ?_
          exact ⟨by congr 1; unfold cmpS; simp_all, (hk1.trans hk2)⟩
        · refine X.opsEnd ?_
          refine X.condF rfl ?_
          refine X.skip ?_
          refine X.seq ?_
          refine X.region ?_
          refine X.opw X.wN rfl (X.assign rfl) ?_
          refine X.opsEnd ?_
          refine X.ret1 (v := (.int .i64 _)) Try.func79 Try.results79 rfl ?_
          exact ⟨by congr 1; unfold cmpS; simp_all, (hk1.trans hk2)⟩
-- f76 "cmp.Or[int]" params [54] results [3] -> [(ResultVar.tmp 2)] nfree 0 ntmps 18 names ["vals", "vals", ""
set_option maxHeartbeats 4000000 in
set_option maxRecDepth 100000 in
theorem cmpOr_c {lo hi : Nat} {A : Option Addr} {n c : Nat} {l : List Int} (w : World) (hs : Sl KI lo hi w A n l) : Ret Try.prog 76 #[.slice A n c] w fun r w' => r = .int .i64 (orI l) ∧ Keep w w' := by
  have hn := hs.bound
  have hl := hs.len
  refine X.enter Try.func76 rfl Try.ntmps76 rfl ?_
  refine X.seq ?_
  refine X.region ?_
  refine X.opw X.wN rfl (X.assign rfl) ?_
  refine X.opsEnd ?_
  refine X.seq ?_
  refine X.region ?_
  refine X.opw X.wN rfl (X.assign rfl) ?_
  refine X.opsEnd ?_
  refine X.seq ?_
  refine X.seq ?_
  refine X.region ?_
  refine X.opw X.wN rfl (X.move (v := .slice _ _ _) rfl) ?_
  refine X.opw X.wN rfl (X.lenSl Try.underlying54 rfl) ?_
  refine X.opw X.wN rfl (X.move rfl) ?_
  refine X.opsEnd ?_
  refine X.block ?_
  -- LOOP live: 3=zero, 6, 7, 8*
  refine X.loopL (σ := Nat) (fun s => [(3, .int .i64 0), (6, .slice A n c), (7, .int .i64 (n : Int)), (8, .int .i64 (s : Int))]) (fun s w' => s ≤ n ∧ orI (l.drop s) = orI l ∧ Keep w w') (fun s => n - s) 0 ⟨rfl, rfl, rfl, rfl, trivial⟩ ⟨Nat.zero_le _, rfl, (Keep.refl _)⟩ ?_
  rintro i b w1 ⟨hi1, hcm, hk⟩ hback
  have hk' := hk.size
  refine X.seq ?_
  refine X.region ?_
  refine X.opP X.wN rfl rfl (X.lss rfl rfl) (fun h9 => ?_) (fun h9 => ?_)
  · obtain ⟨x, hx⟩ := getN i hl h9
    rw [drop_at hx, orI] at hcm
    refine X.opsEnd ?_
    refine X.seq ?_
    refine X.condT rfl ?_
    refine X.skip ?_
    refine X.seq ?_
    refine X.block ?_
    refine X.seq ?_
    refine X.region ?_
    refine X.opw X.wN rfl (X.idxS (hs.keep hk) Try.underlying54 Try.sizeOf3 rfl rfl ⟨by omega, by omega⟩) ?_
    refine X.opw X.wN rfl (X.loadS Try.isAgg3 (hs.keep hk) hx rfl (fun _ h => by rw [h.1]; rfl)) ?_
    refine X.opw X.wN rfl (X.assign (v := .int .i64 _) rfl) ?_
    refine X.opsEnd ?_
    refine X.seq ?_
    refine X.region ?_
    refine X.opw X.wN rfl (X.move (v := .int .i64 _) rfl) ?_
    refine X.opw X.wN rfl (X.move (v := .int .i64 _) rfl) ?_
    refine X.opP X.wN rfl rfl (X.neI rfl rfl) (fun h14 => ?_) (fun h14 => ?_)
    · refine X.opsEnd ?_
      refine X.condT rfl ?_
      refine X.seq ?_
      refine X.region ?_
      refine X.opw X.wN rfl (X.move (v := .int .i64 _) rfl) ?_
      refine X.opw X.wN rfl (X.assign (v := .int .i64 _) rfl) ?_
      refine X.opsEnd ?_
      refine X.ret1 (v := (.int .i64 _)) Try.func76 Try.results76 rfl ?_
      exact ⟨by rw [if_pos h14] at hcm; rw [hcm], hk⟩
    · refine X.opsEnd ?_
      refine X.condF rfl ?_
      refine X.skip ?_
      refine X.inBlock ?_
      refine X.region ?_
      refine X.opw X.wN rfl (X.add rfl rfl (X.w_i64 (by omega))) ?_
      refine X.opw X.wN rfl (X.move (v := .int .i64 _) rfl) ?_
      refine X.opsEnd ?_
      refine hback (i + 1) _ _ ⟨rfl, rfl, rfl, rfl, trivial⟩ ⟨by omega, by rw [if_neg h14] at hcm; exact hcm, hk⟩ (by omega)
  · refine X.opsEnd ?_
    refine X.seq ?_
    refine X.condF rfl ?_
    refine X.exit rfl ?_
    refine X.seq ?_
    refine X.region ?_
    refine X.opw X.wN rfl (X.move (v := .int .i64 _) rfl) ?_
    refine X.opw X.wN rfl (X.assign (v := .int .i64 _) rfl) ?_
    refine X.opsEnd ?_
    refine X.ret1 (v := (.int .i64 _)) Try.func76 Try.results76 rfl ?_
    exact ⟨by rw [← hcm, List.drop_of_length_le (by omega)]; rfl, hk⟩
end Go.Proofs.Ytgfficbkajcdpaa

namespace Go.Proofs.Ytgfficbkajcdpaa
open Go Go.Proofs.Ytgfficbkajcdpaa.X
set_option linter.unusedVariables false
set_option linter.unusedSimpArgs false
theorem less_irr : ∀ x : List UInt8, Op.bytesLess x x = false
  | [] => rfl
  | a :: x => by rw [Op.bytesLess, less_irr x]; simp
theorem less_tri : ∀ x y : List UInt8, Op.bytesLess x y = false → Op.bytesLess y x = false → x = y
  | [], [], _, _ => rfl
  | [], b :: y, h, _ => by simp [Op.bytesLess] at h
  | a :: x, [], _, h => by simp [Op.bytesLess] at h
  | a :: x, b :: y, h1, h2 => by
    simp only [Op.bytesLess, Bool.or_eq_false_iff, decide_eq_false_iff_not, Bool.and_eq_false_iff, beq_eq_false_iff_ne] at h1 h2
    have e : a = b := UInt8.le_antisymm (UInt8.not_lt.1 h2.1) (UInt8.not_lt.1 h1.1)
    subst e
    rw [less_tri x y (h1.2.resolve_left (fun h => h rfl)) (h2.2.resolve_left (fun h => h rfl))]
theorem less_asym : ∀ x y : List UInt8, Op.bytesLess x y = true → Op.bytesLess y x = false
  | [], [], h => by simp [Op.bytesLess] at h
  | [], b :: y, _ => by simp [Op.bytesLess]
  | a :: x, [], h => by simp [Op.bytesLess] at h
  | a :: x, b :: y, h => by
    simp only [Op.bytesLess, Bool.or_eq_true, decide_eq_true_eq, Bool.and_eq_true, beq_iff_eq] at h
    simp only [Op.bytesLess, Bool.or_eq_false_iff, decide_eq_false_iff_not, Bool.and_eq_false_iff, beq_eq_false_iff_ne]
    rcases h with h | ⟨rfl, h⟩
    · exact ⟨fun h2 => UInt8.lt_irrefl _ (UInt8.lt_trans h h2), .inl (fun e => by subst e; exact UInt8.lt_irrefl _ h)⟩
    · exact ⟨UInt8.lt_irrefl _, .inr (less_asym x y h)⟩
theorem data_inj {a b : ByteArray} (h : a.data.toList = b.data.toList) : a = b := by
  obtain ⟨⟨a⟩⟩ := a
  obtain ⟨⟨b⟩⟩ := b
  simp at h; subst h; rfl
theorem cmpS_0 {a b : ByteArray} (h1 : ¬ Op.bytesLess a.data.toList b.data.toList = true) (h2 : ¬ Op.bytesLess b.data.toList a.data.toList = true) : a = b :=
  data_inj (less_tri _ _ (by simpa using h1) (by simpa using h2))
theorem orI_cmp (a b : VAL) : orI [cmp3 a.1 b.1, cmp3 a.2.1 b.2.1, cmpS a.2.2 b.2.2] = cmpV a b := by
  obtain ⟨a1, a2, a3⟩ := a
  obtain ⟨b1, b2, b3⟩ := b
  simp only [orI, cmp3, cmpS, cmpV, Prod.mk.injEq]
  by_cases h1 : a1 < b1
  · have : ¬ a1 = b1 := by omega
    simp [h1, this]
  by_cases h2 : b1 < a1
  · have : ¬ a1 = b1 := by omega
    simp [h1, h2, this]
  have e : a1 = b1 := by omega
  subst e
  by_cases h3 : a2 < b2
  · have : ¬ a2 = b2 := by omega
    simp [h3, this]
  by_cases h4 : b2 < a2
  · have : ¬ a2 = b2 := by omega
    simp [h3, h4, this]
  have e : a2 = b2 := by omega
  subst e
  by_cases h5 : Op.bytesLess a3.data.toList b3.data.toList = true
  · have : ¬ a3 = b3 := fun e => by subst e; rw [less_irr] at h5; cases h5
    simp [h5, this]
  by_cases h6 : Op.bytesLess b3.data.toList a3.data.toList = true
  · have : ¬ a3 = b3 := fun e => by subst e; rw [less_irr] at h6; cases h6
    simp [h5, h6, this]
  have e := cmpS_0 h5 h6
  subst e
  simp [less_irr]
theorem reps3I {w : World} {x y z : Int} (hx : okI x) (hy : okI y) (hz : okI z) : RepsV KI w [x, y, z] [.int .i64 x, .int .i64 y, .int .i64 z] := ⟨⟨_, rfl, rfl, hx⟩, ⟨_, rfl, rfl, hy⟩, ⟨_, rfl, rfl, hz⟩, trivial⟩
-- f75 "pedigree/value.Compare" params [102, 102] results [3] -> [(ResultVar.tmp 4)] nfree 0 ntmps 22 names ["
set_option maxHeartbeats 4000000 in
set_option maxRecDepth 100000 in
theorem valueCompare_c (a b : VAL) (w : World) : Ret Try.prog 75 #[.agg (encV a).toArray, .agg (encV b).toArray] w fun r w' => r = .int .i64 (cmpV a b) ∧ Keep w w' := by
  refine X.enter Try.func75 rfl Try.ntmps75 rfl ?_
  refine X.seq ?_
  refine X.region ?_
  refine X.opE X.wN rfl (X.boxE rfl rfl) ?_
  rintro _ w1 ⟨rfl, hB1, hk1, hz1⟩
  refine X.opE X.wN rfl (X.boxE rfl rfl) ?_
  rintro _ w2 ⟨rfl, hB2, hk2, hz2⟩
  refine X.opw X.wN rfl (X.assign rfl) ?_
  refine X.opsEnd ?_
  refine X.seq ?_
  refine X.regionD (fun _ => False) 17 (by kernel_rfl) (by kernel_rfl) (fun w3 hk3 hz3 => ?_)
  refine X.dTake 0 rfl (by kernel_rfl) (by kernel_rfl) (by kernel_rfl) (X.dwN rfl) (fun w' hk' => X.fldB (j := 0) Try.underlying102 rfl rfl Try.sizeOf100 rfl) ?_
  refine X.dTake 1 rfl (by kernel_rfl) (by kernel_rfl) (by kernel_rfl) (X.dwN rfl) (fun w' hk' => X.load1B Try.isAgg100 (hB1.keep ((hk2.trans hk3).trans hk')) rfl rfl) ?_
  refine X.dTake 2 rfl (by kernel_rfl) (by kernel_rfl) (by kernel_rfl) (X.dwN rfl) (fun w' hk' => X.fldB (j := 0) Try.underlying102 rfl rfl Try.sizeOf100 rfl) ?_
  refine X.dTake 3 rfl (by kernel_rfl) (by kernel_rfl) (by kernel_rfl) (X.dwN rfl) (fun w' hk' => X.load1B Try.isAgg100 (hB2.keep (hk3.trans hk')) rfl rfl) ?_
  refine X.dTake 5 rfl (by kernel_rfl) (by kernel_rfl) (by kernel_rfl) (X.dwN rfl) (fun w' hk' => X.fldB (j := 1) Try.underlying102 rfl rfl Try.sizeOf2 rfl) ?_
  refine X.dTake 6 rfl (by kernel_rfl) (by kernel_rfl) (by kernel_rfl) (X.dwN rfl) (fun w' hk' => X.load1B Try.isAgg2 (hB1.keep ((hk2.trans hk3).trans hk')) rfl rfl) ?_
  refine X.dTake 7 rfl (by kernel_rfl) (by kernel_rfl) (by kernel_rfl) (X.dwN rfl) (fun w' hk' => X.fldB (j := 1) Try.underlying102 rfl rfl Try.sizeOf2 rfl) ?_
  refine X.dTake 8 rfl (by kernel_rfl) (by kernel_rfl) (by kernel_rfl) (X.dwN rfl) (fun w' hk' => X.load1B Try.isAgg2 (hB2.keep (hk3.trans hk')) rfl rfl) ?_
  refine X.dTake 10 rfl (by kernel_rfl) (by kernel_rfl) (by kernel_rfl) (X.dwN rfl) (fun w' hk' => X.fldB (j := 2) Try.underlying102 rfl rfl Try.sizeOf9 rfl) ?_
  refine X.dTake 11 rfl (by kernel_rfl) (by kernel_rfl) (by kernel_rfl) (X.dwN rfl) (fun w' hk' => X.load1B Try.isAgg9 (hB1.keep ((hk2.trans hk3).trans hk')) rfl rfl) ?_
  refine X.dTake 12 rfl (by kernel_rfl) (by kernel_rfl) (by kernel_rfl) (X.dwN rfl) (fun w' hk' => X.fldB (j := 2) Try.underlying102 rfl rfl Try.sizeOf9 rfl) ?_
  refine X.dTake 13 rfl (by kernel_rfl) (by kernel_rfl) (by kernel_rfl) (X.dwN rfl) (fun w' hk' => X.load1B Try.isAgg9 (hB2.keep (hk3.trans hk')) rfl rfl) ?_
  refine X.dE (i := 4) (by kernel_rfl) rfl (X.dwN rfl) (X.callE (cmpKind_c _ _ _) Try.call77 rfl rfl) (by rintro _ w4 ⟨rfl, hk4⟩ _; exact hk4.mono (fun _ _ h => h.elim)) ?_
  rintro _ w4 ⟨rfl, hk4⟩
  have hk4' := hk4.size
  refine X.dE (i := 9) (by kernel_rfl) rfl (X.dwN rfl) (X.callE (cmpNum_c _ _ _) Try.call78 rfl rfl) (by rintro _ w5 ⟨rfl, hk5⟩ _; exact hk5.mono (fun _ _ h => h.elim)) ?_
  rintro _ w5 ⟨rfl, hk5⟩
  have hk5' := hk5.size
  refine X.dE (i := 14) (by kernel_rfl) rfl (X.dwN rfl) (X.callE (cmpStr_c _ _ _) Try.call79 rfl rfl) (by rintro _ w6 ⟨rfl, hk6⟩ _; exact hk6.mono (fun _ _ h => h.elim)) ?_
  rintro _ w6 ⟨rfl, hk6⟩
  have hk6' := hk6.size
  refine X.dE (i := 15) (by kernel_rfl) rfl (X.dwN rfl) (X.litKF KI_flat (K := KI) (xs := [Operand.tmp 9, Operand.tmp 14, Operand.tmp 19]) (vs := [.int .i64 (cmp3 a.1 b.1), .int .i64 (cmp3 a.2.1 b.2.1), .int .i64 (cmpS a.2.2 b.2.2)]) (ys := [cmp3 a.1 b.1, cmp3 a.2.1 b.2.1, cmpS a.2.2 b.2.2]) Try.underlying54 Try.sizeOf3 Try.zeroValue3 rfl rfl rfl rfl rfl (reps3I (cmp3_ok _ _) (cmp3_ok _ _) (cmpS_ok _ _))) (by rintro _ w7 ⟨rfl, hs7, hB7, hk7, hz7⟩ _; exact hk7.mono (fun _ _ h => h.elim)) ?_
  rintro _ w7 ⟨rfl, hs7, hB7, hk7, hz7⟩
  refine X.dE (i := 16) (by kernel_rfl) rfl (X.dwN rfl) (X.callE (cmpOr_c _ hs7) Try.call76 rfl rfl) (by rintro _ w8 ⟨rfl, hk8⟩ _; exact hk8.mono (fun _ _ h => h.elim)) ?_
  rintro _ w8 ⟨rfl, hk8⟩
  have hk8' := hk8.size
  refine X.dStep (i := 17) (by kernel_rfl) rfl (X.dwN rfl) (X.assign (v := .int .i64 _) rfl) (fun h => absurd h (by decide)) ?_
  refine X.dEnd (by kernel_rfl) ?_
  refine X.ret1 (v := (.int .i64 _)) Try.func75 Try.results75 rfl ?_
  exact ⟨by rw [orI_cmp], (((((((hk1.trans hk2).trans hk3).trans hk4).trans hk5).trans hk6).trans hk7).trans hk8)⟩
-- f74 "slices.CompareFunc[pedigree/api.Tuple,pedigree/api.Tuple,pedigree/api.Value,pedigree/api.Value]" param
set_option maxHeartbeats 4000000 in
set_option maxRecDepth 100000 in
theorem CompareFunc_c {lo1 hi1 lo2 hi2 : Nat} {A1 A2 : Option Addr} {n1 n2 c1 c2 : Nat} {l1 l2 : List VAL} (w : World) (hs1 : Sl KV lo1 hi1 w A1 n1 l1) (hs2 : Sl KV lo2 hi2 w A2 n2 l2) : Ret Try.prog 74 #[.slice A1 n1 c1, .slice A2 n2 c2, .func (.func 75) #[] #[]] w fun r w' => r = .int .i64 (cmpT l1 l2) ∧ Keep w w' := by
  have hn1 := hs1.bound
  have hl1 := hs1.len
  have hn2 := hs2.bound
  have hl2 := hs2.len
  refine X.enter Try.func74 rfl Try.ntmps74 rfl ?_
  refine X.seq ?_
  refine X.region ?_
  refine X.opw X.wN rfl (X.assign rfl) ?_
  refine X.opsEnd ?_
  refine X.seq ?_
  refine X.seq ?_
  refine X.region ?_
  refine X.opw X.wN rfl (X.move (v := .slice _ _ _) rfl) ?_
  refine X.opw X.wN rfl (X.lenSl Try.underlying68 rfl) ?_
  refine X.opw X.wN rfl (X.move rfl) ?_
  refine X.opsEnd ?_
  refine X.block ?_
  -- LOOP live: 0=s1, 1=s2, 2=cmp, 11, 12, 13*
  refine X.loopL (σ := Nat) (fun s => [(0, .slice A1 n1 c1), (1, .slice A2 n2 c2), (2, .func (.func 75) #[] #[]), (11, .slice A1 n1 c1), (12, .int .i64 (n1 : Int)), (13, .int .i64 (s : Int))]) (fun s w' => s ≤ n1 ∧ s ≤ n2 ∧ cmpT (l1.drop s) (l2.drop s) = cmpT l1 l2 ∧ Keep w w') (fun s => n1 - s) 0 ⟨rfl, rfl, rfl, rfl, rfl, rfl, trivial⟩ ⟨Nat.zero_le _, Nat.zero_le _, rfl, (Keep.refl _)⟩ ?_
  rintro i b w1 ⟨hi1, hi2, hcm, hk⟩ hback
  have hk' := hk.size
  refine X.seq ?_
  refine X.region ?_
  refine X.opP X.wN rfl rfl (X.lss rfl rfl) (fun h14 => ?_) (fun h14 => ?_)
  · obtain ⟨x, hx⟩ := getN i hl1 h14
    refine X.opsEnd ?_
    refine X.seq ?_
    refine X.condT rfl ?_
    refine X.skip ?_
    refine X.seq ?_
    refine X.block ?_
    refine X.seq ?_
    refine X.region ?_
    refine X.opw X.wN rfl (X.move (v := .int .i64 _) rfl) ?_
    refine X.opw X.wN rfl (X.idxS (hs1.keep hk) Try.underlying68 Try.sizeOf102 rfl rfl ⟨by omega, by omega⟩) ?_
    refine X.opw X.wN rfl (X.loadSN Try.isAgg102 Try.sizeOf102 (hs1.keep hk) hx rfl (fun _ h => h.1) rfl) ?_
    refine X.opE X.wN rfl (X.allocE Try.zeroValue102 rfl) ?_
    rintro _ w1 ⟨rfl, hB1, hk1, hz1⟩
    refine X.opw X.wN rfl (X.assign (v := .int .i64 _) rfl) ?_
    refine X.opE X.wN rfl (X.storeNE Try.sizeOf102 hB1 rfl rfl rfl rfl (encV_one _)) ?_
    rintro _ w2 ⟨hB2, hx2, hz2⟩
    refine X.opsEnd ?_
    refine X.seq ?_
    refine X.seq ?_
    refine X.region ?_
    refine X.opw X.wN rfl (X.move (v := .int .i64 _) rfl) ?_
    refine X.opw X.wN rfl (X.move (v := .slice _ _ _) rfl) ?_
    refine X.opw X.wN rfl (X.lenSl Try.underlying68 rfl) ?_
    refine X.opP X.wN rfl rfl (X.geq rfl rfl) (fun h21 => ?_) (fun h21 => ?_)
    · refine X.opsEnd ?_
      refine X.condT rfl ?_
      refine X.seq ?_
      refine X.region ?_
      refine X.opw X.wN rfl (X.assign rfl) ?_
      refine X.opsEnd ?_
      refine X.ret1 (v := (.int .i64 _)) Try.func74 Try.results74 rfl ?_
      exact ⟨by congr 1; rw [← hcm, cmp_end (by omega) (by omega) (by omega)]; (repeat' split) <;> omega, ((hk.trans hk1).step hx2 (by intros; (try simp only [] at *); omega))⟩
    · obtain ⟨y, hy⟩ := getN i hl2 (by omega)
      rw [drop_at hx, drop_at hy, cmpT] at hcm
      refine X.opsEnd ?_
      refine X.condF rfl ?_
      refine X.skip ?_
      refine X.seq ?_
      refine X.region ?_
      refine X.opw X.wN rfl (X.move (v := .slice _ _ _) rfl) ?_
      refine X.opw X.wN rfl (X.move (v := .int .i64 _) rfl) ?_
      refine X.opw X.wN rfl (X.idxS (hs2.keep ((hk.trans hk1).step hx2 (by intros; (try simp only [] at *); omega))) Try.underlying68 Try.sizeOf102 rfl rfl ⟨by omega, by omega⟩) ?_
      refine X.opw X.wN rfl (X.loadSN Try.isAgg102 Try.sizeOf102 (hs2.keep ((hk.trans hk1).step hx2 (by intros; (try simp only [] at *); omega))) hy rfl (fun _ h => h.1) rfl) ?_
      refine X.opE X.wN rfl (X.allocE Try.zeroValue102 rfl) ?_
      rintro _ w3 ⟨rfl, hB3, hk3, hz3⟩
      refine X.opE X.wN rfl (X.storeNE Try.sizeOf102 hB3 rfl rfl rfl rfl (encV_one _)) ?_
      rintro _ w4 ⟨hB4, hx4, hz4⟩
      refine X.opsEnd ?_
      refine X.seq ?_
      refine X.region ?_
      refine X.opw X.wN rfl (X.move rfl) ?_
      refine X.opw X.wN rfl (X.loadNB Try.isAgg102 Try.sizeOf102 (hB2.keep (hk3.step hx4 (by intros; (try simp only [] at *); omega))) rfl rfl rfl) ?_
      refine X.opw X.wN rfl (X.loadNB Try.isAgg102 Try.sizeOf102 hB4 rfl rfl rfl) ?_
      refine X.opE X.wN rfl ((YC.of_ret (args := [_, _]) (cap := []) (valueCompare_c x y _) Try.call75) _ _ _ _ _ _ _ _ _ rfl rfl) ?_
      rintro _ w5 ⟨rfl, hk5⟩
      have hk5' := hk5.size
      refine X.opw X.wN rfl (X.assign (v := .int .i64 _) rfl) ?_
      refine X.opsEnd ?_
      refine X.seq ?_
      refine X.region ?_
      refine X.opw X.wN rfl (X.move (v := .int .i64 _) rfl) ?_
      refine X.opP X.wN rfl rfl (X.neI rfl rfl) (fun h31 => ?_) (fun h31 => ?_)
      · refine X.opsEnd ?_
        refine X.condT rfl ?_
        refine X.seq ?_
        refine X.region ?_
        refine X.opw X.wN rfl (X.move (v := .int .i64 _) rfl) ?_
        refine X.opw X.wN rfl (X.assign (v := .int .i64 _) rfl) ?_
        refine X.opsEnd ?_
        refine X.ret1 (v := (.int .i64 _)) Try.func74 Try.results74 rfl ?_
        exact ⟨by rw [if_pos h31] at hcm; rw [hcm], (((((hk.trans hk1).step hx2 (by intros; (try simp only [] at *); omega)).trans hk3).step hx4 (by intros; (try simp only [] at *); omega)).trans hk5)⟩
      · refine X.opsEnd ?_
        refine X.condF rfl ?_
        refine X.skip ?_
        refine X.inBlock ?_
        refine X.region ?_
        refine X.opw X.wN rfl (X.add rfl rfl (X.w_i64 (by omega))) ?_
        refine X.opw X.wN rfl (X.move (v := .int .i64 _) rfl) ?_
        refine X.opsEnd ?_
        refine hback (i + 1) _ _ ⟨rfl, rfl, rfl, rfl, rfl, rfl, trivial⟩ ⟨by omega, by omega, by rw [if_neg h31] at hcm; exact hcm, (((((hk.trans hk1).step hx2 (by intros; (try simp only [] at *); omega)).trans hk3).step hx4 (by intros; (try simp only [] at *); omega)).trans hk5)⟩ (by omega)
  · refine X.opsEnd ?_
    refine X.seq ?_
    refine X.condF rfl ?_
    refine X.exit rfl ?_
    refine X.seq ?_
    refine X.seq ?_
    refine X.region ?_
    refine X.opw X.wN rfl (X.move (v := .slice _ _ _) rfl) ?_
    refine X.opw X.wN rfl (X.lenSl Try.underlying68 rfl) ?_
    refine X.opw X.wN rfl (X.move (v := .slice _ _ _) rfl) ?_
    refine X.opw X.wN rfl (X.lenSl Try.underlying68 rfl) ?_
    refine X.opP X.wN rfl rfl (X.lss rfl rfl) (fun h38 => ?_) (fun h38 => ?_)
    · refine X.opsEnd ?_
      refine X.condT rfl ?_
      refine X.seq ?_
      refine X.region ?_
      refine X.opw X.wN rfl (X.assign rfl) ?_
      refine X.opsEnd ?_
      refine X.ret1 (v := (.int .i64 _)) Try.func74 Try.results74 rfl ?_
      exact ⟨by congr 1; rw [← hcm, cmp_end (by omega) (by omega) (by omega)]; (repeat' split) <;> omega, hk⟩
    · refine X.opsEnd ?_
      refine X.condF rfl ?_
      refine X.skip ?_
      refine X.seq ?_
      refine X.region ?_
      refine X.opw X.wN rfl (X.assign rfl) ?_
      refine X.opsEnd ?_
      refine X.ret1 (v := (.int .i64 _)) Try.func74 Try.results74 rfl ?_
      exact ⟨by congr 1; rw [← hcm, cmp_end (by omega) (by omega) (by omega)]; (repeat' split) <;> omega, hk⟩
-- f73 "pedigree/tuple.Compare" params [68, 68] results [3] -> [(ResultVar.tmp 4)] nfree 0 ntmps 8 names ["a",
set_option maxHeartbeats 4000000 in
set_option maxRecDepth 100000 in
theorem tupleCompare_c {lo1 hi1 lo2 hi2 : Nat} {A1 A2 : Option Addr} {n1 n2 c1 c2 : Nat} {l1 l2 : List VAL} (w : World) (hs1 : Sl KV lo1 hi1 w A1 n1 l1) (hs2 : Sl KV lo2 hi2 w A2 n2 l2) : Ret Try.prog 73 #[.slice A1 n1 c1, .slice A2 n2 c2] w fun r w' => r = .int .i64 (cmpT l1 l2) ∧ Keep w w' := by
  refine X.enter Try.func73 rfl Try.ntmps73 rfl ?_
  refine X.seq ?_
  refine X.region ?_
  refine X.opw X.wN rfl (X.assign rfl) ?_
  refine X.opsEnd ?_
  refine X.seq ?_
  refine X.region ?_
  refine X.opw X.wN rfl (X.move (v := .slice _ _ _) rfl) ?_
  refine X.opw X.wN rfl (X.move (v := .slice _ _ _) rfl) ?_
  refine X.opE X.wN rfl (X.callE (CompareFunc_c _ hs1 hs2) Try.call74 rfl rfl) ?_
  rintro _ w1 ⟨rfl, hk1⟩
  have hk1' := hk1.size
  refine X.opw X.wN rfl (X.assign (v := .int .i64 _) rfl) ?_
  refine X.opsEnd ?_
  refine X.ret1 (v := (.int .i64 _)) Try.func73 Try.results73 rfl ?_
  exact ⟨rfl, hk1⟩
end Go.Proofs.Ytgfficbkajcdpaa

namespace Go.Proofs.Ytgfficbkajcdpaa
open Go Go.Proofs.Ytgfficbkajcdpaa.X
set_option linter.unusedVariables false
set_option linter.unusedSimpArgs false
abbrev HDR := Option Addr × Nat × Nat
/-- The tuple of a slice's three words, in the world w0, below B. -/
def TPL (B : Nat) (w0 : World) (h : HDR) (t : List VAL) : Prop := Sl KV 0 B w0 h.1 h.2.1 t
open Classical in
noncomputable def tp (B : Nat) (w0 : World) (h : HDR) : List VAL := if q : ∃ t, TPL B w0 h t then q.choose else []
theorem tp_ok {B : Nat} {w0 : World} {h : HDR} (q : ∃ t, TPL B w0 h t) : Sl KV 0 B w0 h.1 h.2.1 (tp B w0 h) := by
  rw [tp, dif_pos q]; exact q.choose_spec
def okC (B : Nat) (w0 : World) (x : CT) : Prop := ∃ t, TPL B w0 x.1 t
def CWc (B : Nat) (w0 w : World) : Prop := Ext (fun k => B ≤ k) w0 w
theorem CWc.step {B : Nat} {w0 w w' : World} (h : CWc B w0 w) (x : Ext (fun k => B ≤ k) w w') : CWc B w0 w' := Ext.trans h x (fun _ _ h => h) (fun _ _ h => h)
noncomputable def cmC (B : Nat) (w0 : World) (x y : CT) : Int := cmpT (tp B w0 x.1) (tp B w0 y.1)
noncomputable def ltC (B : Nat) (w0 : World) (x y : CT) : Bool := decide (cmC B w0 x y < 0)
noncomputable def eqC (B : Nat) (w0 : World) (x y : CT) : Bool := decide (cmC B w0 x y = 0)
/-- Those that are alike, added up; the rest; all sums that are something. -/
def absC (eq : CT → CT → Bool) (x : CT) : List CT → CT × List CT
  | [] => (x, [])
  | y :: l => if eq x y then absC eq (x.1, IntKind.i64.wrap (x.2 + y.2)) l else (x, y :: l)
def sumF (eq : CT → CT → Bool) : Nat → List CT → List CT
  | 0, _ => []
  | _ + 1, [] => []
  | f + 1, x :: l => if (absC eq x l).1.2 ≠ 0 then (absC eq x l).1 :: sumF eq f (absC eq x l).2 else sumF eq f (absC eq x l).2
def sumC (eq : CT → CT → Bool) (l : List CT) : List CT := sumF eq l.length l
section
variable {eq : CT → CT → Bool}
theorem absC_len : ∀ (l : List CT) (x : CT), (absC eq x l).2.length ≤ l.length
  | [], x => by simp [absC]
  | y :: l, x => by
    rw [absC]; split
    · have := absC_len l (x.1, IntKind.i64.wrap (x.2 + y.2)); simp; omega
    · simp
theorem absC_mem : ∀ (l : List CT) (x y : CT), y ∈ (absC eq x l).2 → y ∈ l
  | [], x, y, h => by simp [absC] at h
  | z :: l, x, y, h => by
    rw [absC] at h; split at h
    · exact List.mem_cons_of_mem _ (absC_mem l _ y h)
    · exact h
theorem absC_hd : ∀ (l : List CT) (x : CT), (absC eq x l).1.1 = x.1
  | [], x => rfl
  | y :: l, x => by
    rw [absC]; split
    · exact absC_hd l _
    · rfl
theorem sumF_eq : ∀ (f : Nat) (l : List CT), l.length ≤ f → sumF eq f l = sumF eq l.length l
  | 0, [], _ => rfl
  | 0, _ :: _, h => by simp at h
  | f + 1, [], _ => rfl
  | f + 1, x :: l, h => by
    have h1 := absC_len (eq := eq) l x
    simp only [List.length_cons] at h ⊢
    rw [sumF, sumF, sumF_eq f _ (by omega), sumF_eq l.length _ h1]
theorem sumC_nil : sumC eq [] = [] := rfl
theorem sumC_cons (x : CT) (l : List CT) : sumC eq (x :: l) = if (absC eq x l).1.2 ≠ 0 then (absC eq x l).1 :: sumC eq (absC eq x l).2 else sumC eq (absC eq x l).2 := by
  have h1 := absC_len (eq := eq) l x
  rw [sumC, List.length_cons, sumF, sumF_eq l.length _ h1]; rfl
end
theorem sumC_len {eq : CT → CT → Bool} : ∀ (n : Nat) (l : List CT), l.length ≤ n → (sumC eq l).length ≤ l.length
  | 0, [], _ => Nat.le_refl _
  | n + 1, [], _ => Nat.le_refl _
  | n + 1, x :: l, h => by
    have h1 := absC_len (eq := eq) l x
    have h2 := sumC_len (eq := eq) n (absC eq x l).2 (by simp at h; omega)
    rw [sumC_cons]; split
    · simp; omega
    · simp; omega
theorem cmpT_same {B : Nat} {w0 : World} {x x' y : CT} (h : x.1 = x'.1) : cmC B w0 x y = cmC B w0 x' y := by rw [cmC, cmC, h]
-- f62 "pedigree/merge.ahead" params [70, 70] results [3] -> [(ResultVar.tmp 4)] nfree 0 ntmps 10 names ["a", 
set_option maxHeartbeats 4000000 in
set_option maxRecDepth 100000 in
theorem ahead_c {lo1 hi1 lo2 hi2 : Nat} {A1 A2 : Option Addr} {n1 n2 c1 c2 : Nat} {l1 l2 : List VAL} (N1 N2 : Int) (w : World) (hs1 : Sl KV lo1 hi1 w A1 n1 l1) (hs2 : Sl KV lo2 hi2 w A2 n2 l2) : Ret Try.prog 62 #[.agg #[.slice A1 n1 c1, .int .i64 N1], .agg #[.slice A2 n2 c2, .int .i64 N2]] w fun r w' => r = .int .i64 (cmpT l1 l2) ∧ Keep w w' := by
  refine X.enter Try.func62 rfl Try.ntmps62 rfl ?_
  refine X.seq ?_
  refine X.region ?_
  refine X.opE X.wN rfl (X.boxE rfl rfl) ?_
  rintro _ w1 ⟨rfl, hB1, hk1, hz1⟩
  refine X.opE X.wN rfl (X.boxE rfl rfl) ?_
  rintro _ w2 ⟨rfl, hB2, hk2, hz2⟩
  refine X.opw X.wN rfl (X.assign rfl) ?_
  refine X.opsEnd ?_
  refine X.seq ?_
  refine X.region ?_
  refine X.opw X.wN rfl (X.fldB (j := 0) Try.underlying70 rfl rfl Try.sizeOf68 rfl) ?_
  refine X.opw X.wN rfl (X.load1B Try.isAgg68 (hB1.keep hk2) rfl rfl) ?_
  refine X.opw X.wN rfl (X.fldB (j := 0) Try.underlying70 rfl rfl Try.sizeOf68 rfl) ?_
  refine X.opw X.wN rfl (X.load1B Try.isAgg68 hB2 rfl rfl) ?_
  refine X.opE X.wN rfl (X.callE (tupleCompare_c _ (hs1.keep (hk1.trans hk2)) (hs2.keep (hk1.trans hk2))) Try.call73 rfl rfl) ?_
  rintro _ w3 ⟨rfl, hk3⟩
  have hk3' := hk3.size
  refine X.opw X.wN rfl (X.assign (v := .int .i64 _) rfl) ?_
  refine X.opsEnd ?_
  refine X.ret1 (v := (.int .i64 _)) Try.func62 Try.results62 rfl ?_
  exact ⟨rfl, ((hk1.trans hk2).trans hk3)⟩
theorem ahead_ok {B : Nat} {w0 : World} {x y : CT} {w : World} (hx : okC B w0 x) (hy : okC B w0 y) (h : CWc B w0 w) : Ret Try.prog 62 #[evC x, evC y] w fun r w' => r = .int .i64 (cmC B w0 x y) ∧ Keep w w' :=
  ahead_c x.2 y.2 w ((tp_ok hx).ext h fun k _ h2 h3 => absurd h3 (Nat.not_le.2 h2)) ((tp_ok hy).ext h fun k _ h2 h3 => absurd h3 (Nat.not_le.2 h2))
theorem ahead_cmp {B : Nat} {w0 : World} (x y : CT) (wa : World) (hx : okC B w0 x) (hy : okC B w0 y) (h : CWc B w0 wa) : YC Try.prog (.func (.func 62) #[] #[]) [evC x, evC y] wa fun r wb => ∃ nc, r = .int .i64 nc ∧ (nc < 0 ↔ ltC B w0 x y = true) ∧ Keep wa wb :=
  YC.of_ret (args := [_, _]) (cap := []) ((ahead_ok hx hy h).mono fun r w' ⟨h1, h2⟩ => ⟨_, h1, by simp [ltC], h2⟩) Try.call62
-- f63 "pedigree/merge.Sum$1" params [] results [70, 4] -> [(ResultVar.cell 1 70), (ResultVar.tmp 2)] nfree 1 
set_option maxHeartbeats 4000000 in
set_option maxRecDepth 100000 in
theorem CSum1_c {B B0 : Nat} {w0 : World} {Tt : Nat → Prop} {hb c0 : Nat} {ys : List CT} (w : World) (h0 : Blk w c0 [ptrV hb] 103) (hd : HdC B Tt hb ys w) (hBs : B ≤ w.heap.size) (hBh : B ≤ hb) (hbl : hb < w.heap.size) (hTh : ¬ Tt hb) (hTb : ∀ k, Tt k → k < w.heap.size) (hTB : ∀ k, Tt k → B ≤ k) (hB0 : B0 ≤ B) (hsep : ∀ k, (Tt k ∨ k = hb) → k ≠ c0) (hCW : CWc B0 w0 w) (hok : ∀ x, x ∈ ys → okC B0 w0 x) :
    Ret Try.prog 63 #[ptrV c0] w fun r w' => r = hdV evC zC (sumC (eqC B0 w0) ys) ∧ Ext (fun k => Tt k ∨ k = hb) w w' ∧ (sumC (eqC B0 w0) ys ≠ [] → ∃ ys', (sumC (eqC B0 w0) ys).tail = sumC (eqC B0 w0) ys' ∧ HdC B Tt hb ys' w' ∧ ∀ x, x ∈ ys' → okC B0 w0 x) := by
  have h0l := h0.lt
  have hUb : ∀ k, (Tt k ∨ k = hb) → k < w.heap.size := fun k h => h.elim (hTb k) (fun h => by omega)
  have hUB : ∀ k, k < w.heap.size → (Tt k ∨ k = hb) → B0 ≤ k := fun k _ h => h.elim (fun h => by have := hTB k h; omega) (fun h => by omega)
  refine X.enter Try.func63 rfl Try.ntmps63 rfl ?_
  refine X.seq ?_
  refine X.region ?_
  refine X.opE X.wN rfl (X.allocE Try.zeroValue70 rfl) ?_
  rintro _ w1 ⟨rfl, hB1, hk1, hz1⟩
  refine X.opw X.wN rfl (X.assign rfl) ?_
  refine X.opsEnd ?_
  refine X.block ?_
  -- LOOP live: 0, 1
  refine X.loopL (σ := List CT) (fun s => [(0, ptrV c0), (1, .pointer (some ⟨w.heap.size, 0, none⟩))]) (fun s w' => sumC (eqC B0 w0) s = sumC (eqC B0 w0) ys ∧ (∀ x, x ∈ s → okC B0 w0 x) ∧ Blk w' c0 [ptrV hb] 103 ∧ Blk w' w.heap.size [.slice none 0 0, .int .i64 0] 70 ∧ HdC B Tt hb s w' ∧ Ext (fun k => Tt k ∨ k = hb) w w' ∧ w.heap.size < w'.heap.size) (fun s => s.length) ys ⟨rfl, rfl, trivial⟩ ⟨rfl, hok, (h0.keep hk1), hB1, hd.ext hk1 (fun _ _ h => h.elim), hk1.mono (fun _ _ h => h.elim), by omega⟩ ?_
  rintro l b0 wl ⟨hs1, hs2, hBp, hBq, hHd, hE, hwl⟩ hback
  refine X.block ?_
  refine X.seq ?_
  refine X.region ?_
  refine X.opw X.wN rfl (X.load1B Try.isAgg103 hBp rfl rfl) ?_
  refine X.opE X.wN rfl (X.callE (clook_c _ hHd (by omega) hBh hTh (fun k hk => by have := hTb k hk; omega)) Try.call64 rfl rfl) ?_
  rintro _ w2 ⟨y2, rfl, hH2, hx2⟩
  have hx2' := hx2.size
  refine X.opw X.wN rfl (X.move rfl) ?_
  refine X.opw X.wN rfl (X.extr rfl rfl) ?_
  refine X.opw X.wN rfl (X.extr rfl rfl) ?_
  refine X.opE X.wN rfl (X.allocE Try.zeroValue70 rfl) ?_
  rintro _ w3 ⟨rfl, hB3, hk3, hz3⟩
  refine X.opE X.wN rfl (X.storeNE Try.sizeOf70 hB3 rfl rfl rfl rfl (fun u hu => by simp at hu; rcases hu with rfl | rfl <;> rfl)) ?_
  rintro _ w4 ⟨hB4, hx4, hz4⟩
  refine X.opw X.wN rfl (X.assign (v := .bool _) rfl) ?_
  refine X.opsEnd ?_
  refine X.seq ?_
  refine X.seq ?_
  refine X.region ?_
  refine X.opw X.wN rfl (X.move (v := .bool _) rfl) ?_
  refine X.opw X.wN rfl (X.not_ rfl) ?_
  refine X.opsEnd ?_
  refine X.condB rfl (fun hc => ?_) (fun hc => ?_)
  · obtain rfl : l = [] := by simpa using hc
    refine X.seq ?_
    refine X.region ?_
    refine X.opw X.wN rfl (X.buildB (vs := []) (cs := #[.slice none 0 0, .int .i64 0]) rfl (by kernel_rfl)) ?_
    refine X.opE X.wN rfl (X.storeNE Try.sizeOf70 ((hBq.ext hx2 (fun h => absurd (hUb _ (h)) (by (try simp only []); omega))).keep (hk3.step hx4 (by intros; (try simp only [] at *); omega))) rfl rfl rfl rfl (fun u hu => by simp at hu; rcases hu with rfl | rfl <;> rfl)) ?_
    rintro _ w5 ⟨hB5, hx5, hz5⟩
    refine X.opw X.wN rfl (X.assign rfl) ?_
    refine X.opsEnd ?_
    refine X.ret_unw (X.unwR2 Try.func63 Try.results63 (X.ResOk.cell rfl (X.lvN Try.isAgg70 Try.sizeOf70 hB5 rfl)) (show X.ResOk _ _ _ (.tmp 2) (.bool _) from rfl) ?_)
    rw [← hs1]
    exact ⟨rfl, (Ext.andThen (Ext.andThen (Ext.andThen (Ext.andThen hE hx2 (by intro k h1 h2; first | exact h2 | exact .inr h2 | exact (h2 : False).elim | (exfalso; (try simp only [] at *); omega))) hk3 (by intro k h1 h2; first | exact h2 | exact .inr h2 | exact (h2 : False).elim | (exfalso; (try simp only [] at *); omega))) hx4 (by intro k h1 h2; first | exact h2 | exact .inr h2 | exact (h2 : False).elim | (exfalso; (try simp only [] at *); omega))) hx5 (by intro k h1 h2; first | exact h2 | exact .inr h2 | exact (h2 : False).elim | (exfalso; (try simp only [] at *); omega))), fun h => absurd rfl h⟩
  · obtain ⟨l', rfl⟩ : ∃ l', l = y2 :: l' := by
      cases l with
      | nil => simp at hc
      | cons z l => exact ⟨l, by rw [hH2.head]⟩
    have hHy2 := hH2
    have hoy := hs2 _ List.mem_cons_self
    refine X.skip ?_
    refine X.seq ?_
    refine X.region ?_
    refine X.opw X.wN rfl (X.load1B Try.isAgg103 ((hBp.ext hx2 (fun h => (hsep _ (h)) rfl)).keep (hk3.step hx4 (by intros; (try simp only [] at *); omega))) rfl rfl) ?_
    refine X.opE X.wN rfl (X.callE (cpass_c _ (hHy2.ext (Ext.andThen (Ext.andThen (Ext.refl (fun k => w.heap.size ≤ k) _) hk3 (by intro k h1 h2; first | exact (h2 : False).elim | omega | ((try simp only [] at *); omega))) hx4 (by intro k h1 h2; first | exact (h2 : False).elim | omega | ((try simp only [] at *); omega))) (fun k hk h => ⟨by omega, fun ht => by have := hTb k ht; omega, by omega⟩)) hBh hTh) Try.call65 rfl rfl) ?_
    rintro _ w6 ⟨rfl, hH6, hx6⟩
    have hx6' := hx6.size
    refine X.opsEnd ?_
    refine X.seq ?_
    refine X.block ?_
    -- LOOP live: 0, 1, 3=x
    have hwb : w.heap.size < w2.heap.size := by omega
    refine X.loopL (σ := CT × List CT) (fun s => [(0, ptrV c0), (1, .pointer (some ⟨w.heap.size, 0, none⟩)), (3, .pointer (some ⟨w2.heap.size, 0, none⟩))]) (fun s w' => absC (eqC B0 w0) s.1 s.2 = absC (eqC B0 w0) y2 l' ∧ s.1.1 = y2.1 ∧ (∀ x, x ∈ s.2 → x ∈ l') ∧ s.2.length ≤ l'.length ∧ Blk w' w2.heap.size [.slice s.1.1.1 s.1.1.2.1 s.1.1.2.2, .int .i64 s.1.2] 70 ∧ Blk w' c0 [ptrV hb] 103 ∧ Blk w' w.heap.size [.slice none 0 0, .int .i64 0] 70 ∧ HdC B Tt hb s.2 w' ∧ Ext (fun k => Tt k ∨ k = hb) w w' ∧ w.heap.size < w'.heap.size ∧ w2.heap.size < w'.heap.size) (fun s => s.2.length) (y2, l') ⟨rfl, rfl, rfl, trivial⟩ ⟨rfl, rfl, fun _ h => h, Nat.le_refl _, (hB4.ext hx6 (fun h => absurd (hUb _ (.inr h)) (by (try simp only []); omega))), (((hBp.ext hx2 (fun h => (hsep _ (h)) rfl)).keep (hk3.step hx4 (by intros; (try simp only [] at *); omega))).ext hx6 (fun h => (hsep _ (.inr h)) rfl)), (((hBq.ext hx2 (fun h => absurd (hUb _ (h)) (by (try simp only []); omega))).keep (hk3.step hx4 (by intros; (try simp only [] at *); omega))).ext hx6 (fun h => absurd (hUb _ (.inr h)) (by (try simp only []); omega))), hH6, (Ext.andThen (Ext.andThen (Ext.andThen (Ext.andThen hE hx2 (by intro k h1 h2; first | exact h2 | exact .inr h2 | exact (h2 : False).elim | (exfalso; (try simp only [] at *); omega))) hk3 (by intro k h1 h2; first | exact h2 | exact .inr h2 | exact (h2 : False).elim | (exfalso; (try simp only [] at *); omega))) hx4 (by intro k h1 h2; first | exact h2 | exact .inr h2 | exact (h2 : False).elim | (exfalso; (try simp only [] at *); omega))) hx6 (by intro k h1 h2; first | exact h2 | exact .inr h2 | exact (h2 : False).elim | (exfalso; (try simp only [] at *); omega))), by omega, by omega⟩ ?_
    rintro ⟨x, m⟩ b1 wm ⟨ha, hah, ham, hal, hBx, hBp, hBq, hHe, hE, hwm, hwm3⟩ hback2
    dsimp only
    simp only at ha hah ham hal hBx hHe
    refine X.block ?_
    refine X.seq ?_
    refine X.region ?_
    refine X.opw X.wN rfl (X.load1B Try.isAgg103 hBp rfl rfl) ?_
    refine X.opE X.wN rfl (X.callE (clook_c _ hHe (by omega) hBh hTh (fun k hk => by have := hTb k hk; omega)) Try.call64 rfl rfl) ?_
    rintro _ w7 ⟨y7, rfl, hH7, hx7⟩
    have hx7' := hx7.size
    refine X.opw X.wN rfl (X.move rfl) ?_
    refine X.opw X.wN rfl (X.extr rfl rfl) ?_
    refine X.opw X.wN rfl (X.extr rfl rfl) ?_
    refine X.opE X.wN rfl (X.allocE Try.zeroValue70 rfl) ?_
    rintro _ w8 ⟨rfl, hB8, hk8, hz8⟩
    refine X.opE X.wN rfl (X.storeNE Try.sizeOf70 hB8 rfl rfl rfl rfl (fun u hu => by simp at hu; rcases hu with rfl | rfl <;> rfl)) ?_
    rintro _ w9 ⟨hB9, hx9, hz9⟩
    refine X.opw X.wN rfl (X.assign (v := .bool _) rfl) ?_
    refine X.opsEnd ?_
    refine X.seq ?_
    refine X.seq ?_
    refine X.region ?_
    refine X.opw X.wN rfl (X.move (v := .bool _) rfl) ?_
    refine X.opw X.wN rfl (X.not_ rfl) ?_
    refine X.opw X.wN rfl (X.move (v := .bool _) rfl) ?_
    refine X.forkO 24 rfl (fun h24 => ?_) (fun h24 => ?_)
    · obtain rfl : m = [] := by simpa using h24
      refine X.opS rfl rfl rfl rfl rfl ?_
      refine X.opS rfl rfl rfl rfl rfl ?_
      refine X.opS rfl rfl rfl rfl rfl ?_
      refine X.opS rfl rfl rfl rfl rfl ?_
      refine X.opw X.wN rfl (X.pickT (v := .bool true) rfl rfl) ?_
      refine X.opsEnd ?_
      refine X.condT rfl ?_
      refine X.exit rfl ?_
      refine X.seq ?_
      refine X.region ?_
      refine X.opw X.wN rfl (X.fldB (j := 1) Try.underlying70 rfl rfl Try.sizeOf2 rfl) ?_
      refine X.opw X.wN rfl (X.load1B Try.isAgg2 ((hBx.ext hx7 (fun h => absurd (hUb _ (h)) (by (try simp only []); omega))).keep (hk8.step hx9 (by intros; (try simp only [] at *); omega))) rfl rfl) ?_
      refine X.opP X.wN rfl rfl (X.neI rfl rfl) (fun h40 => ?_) (fun h40 => ?_)
      · refine X.opsEnd ?_
        refine X.condT rfl ?_
        refine X.seq ?_
        refine X.region ?_
        refine X.opw X.wN rfl (X.loadNB Try.isAgg70 Try.sizeOf70 ((hBx.ext hx7 (fun h => absurd (hUb _ (h)) (by (try simp only []); omega))).keep (hk8.step hx9 (by intros; (try simp only [] at *); omega))) rfl rfl rfl) ?_
        refine X.opE X.wN rfl (X.storeNE Try.sizeOf70 ((hBq.ext hx7 (fun h => absurd (hUb _ (h)) (by (try simp only []); omega))).keep (hk8.step hx9 (by intros; (try simp only [] at *); omega))) rfl rfl rfl rfl (fun u hu => by simp at hu; rcases hu with rfl | rfl <;> rfl)) ?_
        rintro _ w10 ⟨hB10, hx10, hz10⟩
        refine X.opw X.wN rfl (X.assign rfl) ?_
        refine X.opsEnd ?_
        refine X.ret_unw (X.unwR2 Try.func63 Try.results63 (X.ResOk.cell rfl (X.lvN Try.isAgg70 Try.sizeOf70 hB10 rfl)) (show X.ResOk _ _ _ (.tmp 2) (.bool _) from rfl) ?_)
        have hab2 : absC (eqC B0 w0) y2 l' = (x, []) := by rw [← ha]; rfl
        have hz : x.2 ≠ 0 := by simpa using h40
        have hsm : sumC (eqC B0 w0) ys = x :: sumC (eqC B0 w0) [] := by rw [← hs1, sumC_cons, hab2, if_pos hz]
        rw [hsm]
        exact ⟨rfl, (Ext.andThen (Ext.andThen (Ext.andThen (Ext.andThen hE hx7 (by intro k h1 h2; first | exact h2 | exact .inr h2 | exact (h2 : False).elim | (exfalso; (try simp only [] at *); omega))) hk8 (by intro k h1 h2; first | exact h2 | exact .inr h2 | exact (h2 : False).elim | (exfalso; (try simp only [] at *); omega))) hx9 (by intro k h1 h2; first | exact h2 | exact .inr h2 | exact (h2 : False).elim | (exfalso; (try simp only [] at *); omega))) hx10 (by intro k h1 h2; first | exact h2 | exact .inr h2 | exact (h2 : False).elim | (exfalso; (try simp only [] at *); omega))), fun _ => ⟨[], rfl, (.inr ⟨_, hH7.ext (Ext.andThen (Ext.andThen (Ext.andThen (Ext.refl (fun k => w.heap.size ≤ k) _) hk8 (by intro k h1 h2; first | exact (h2 : False).elim | omega | ((try simp only [] at *); omega))) hx9 (by intro k h1 h2; first | exact (h2 : False).elim | omega | ((try simp only [] at *); omega))) hx10 (by intro k h1 h2; first | exact (h2 : False).elim | omega | ((try simp only [] at *); omega))) (fun k hk h => ⟨by omega, fun ht => by have := hTb k ht; omega, by omega⟩)⟩), fun z h => hs2 z (List.mem_cons_of_mem _ (ham z h))⟩⟩
      · refine X.opsEnd ?_
        refine X.condF rfl ?_
        refine X.skip ?_
        refine X.inBlock ?_
        have hab2 : absC (eqC B0 w0) y2 l' = (x, []) := by rw [← ha]; rfl
        have hz : x.2 = 0 := by simpa using h40
        refine hback [] _ _ ⟨rfl, rfl, trivial⟩ ⟨by rw [← hs1, sumC_cons y2 l', hab2, if_neg (by simpa using hz)], fun z h => hs2 z (List.mem_cons_of_mem _ (ham z h)), ((hBp.ext hx7 (fun h => (hsep _ (h)) rfl)).keep (hk8.step hx9 (by intros; (try simp only [] at *); omega))), ((hBq.ext hx7 (fun h => absurd (hUb _ (h)) (by (try simp only []); omega))).keep (hk8.step hx9 (by intros; (try simp only [] at *); omega))), (.inr ⟨_, hH7.ext (Ext.andThen (Ext.andThen (Ext.refl (fun k => w.heap.size ≤ k) _) hk8 (by intro k h1 h2; first | exact (h2 : False).elim | omega | ((try simp only [] at *); omega))) hx9 (by intro k h1 h2; first | exact (h2 : False).elim | omega | ((try simp only [] at *); omega))) (fun k hk h => ⟨by omega, fun ht => by have := hTb k ht; omega, by omega⟩)⟩), (Ext.andThen (Ext.andThen (Ext.andThen hE hx7 (by intro k h1 h2; first | exact h2 | exact .inr h2 | exact (h2 : False).elim | (exfalso; (try simp only [] at *); omega))) hk8 (by intro k h1 h2; first | exact h2 | exact .inr h2 | exact (h2 : False).elim | (exfalso; (try simp only [] at *); omega))) hx9 (by intro k h1 h2; first | exact h2 | exact .inr h2 | exact (h2 : False).elim | (exfalso; (try simp only [] at *); omega))), by omega⟩ (by simp only [List.length_cons, List.length_nil] at *; omega)
    · obtain ⟨m', rfl⟩ : ∃ m', m = y7 :: m' := by
        cases m with
        | nil => simp at h24
        | cons z l => exact ⟨l, by rw [hH7.head]⟩
      have hHy7 := hH7
      have hox : okC B0 w0 x := by unfold okC; rw [hah]; exact hoy
      have hoz := hs2 _ (List.mem_cons_of_mem _ (ham _ List.mem_cons_self))
      refine X.opw (X.wG rfl rfl rfl) rfl (X.loadNB Try.isAgg70 Try.sizeOf70 ((hBx.ext hx7 (fun h => absurd (hUb _ (h)) (by (try simp only []); omega))).keep (hk8.step hx9 (by intros; (try simp only [] at *); omega))) rfl rfl rfl) ?_
      refine X.opw (X.wG rfl rfl rfl) rfl (X.loadNB Try.isAgg70 Try.sizeOf70 hB9 rfl rfl rfl) ?_
      refine X.opE (X.wG rfl rfl rfl) rfl (X.callE (ahead_ok hox hoz (hCW.step (Ext.andThen (Ext.andThen (Ext.andThen (hE.mono hUB) hx7 (by intro k h1 h2; first | exact (h2 : False).elim | exact hUB _ (by omega) h2 | exact hUB _ (by omega) (.inr h2) | ((try simp only [] at *); omega))) hk8 (by intro k h1 h2; first | exact (h2 : False).elim | exact hUB _ (by omega) h2 | exact hUB _ (by omega) (.inr h2) | ((try simp only [] at *); omega))) hx9 (by intro k h1 h2; first | exact (h2 : False).elim | exact hUB _ (by omega) h2 | exact hUB _ (by omega) (.inr h2) | ((try simp only [] at *); omega))))) Try.call62 rfl rfl) ?_
      rintro _ w11 ⟨rfl, hk11⟩
      have hk11' := hk11.size
      refine X.opP (X.wG rfl rfl rfl) rfl rfl (X.neI rfl rfl) (fun h28 => ?_) (fun h28 => ?_)
      · have hab : absC (eqC B0 w0) x (y7 :: m') = (x, y7 :: m') := by rw [absC, eqC, if_neg (by simpa using h28)]
        refine X.opw X.wN rfl (X.pickF (v := .bool true) rfl rfl) ?_
        refine X.opsEnd ?_
        refine X.condT rfl ?_
        refine X.exit rfl ?_
        refine X.seq ?_
        refine X.region ?_
        refine X.opw X.wN rfl (X.fldB (j := 1) Try.underlying70 rfl rfl Try.sizeOf2 rfl) ?_
        refine X.opw X.wN rfl (X.load1B Try.isAgg2 ((hBx.ext hx7 (fun h => absurd (hUb _ (h)) (by (try simp only []); omega))).keep ((hk8.step hx9 (by intros; (try simp only [] at *); omega)).trans hk11)) rfl rfl) ?_
        refine X.opP X.wN rfl rfl (X.neI rfl rfl) (fun h40 => ?_) (fun h40 => ?_)
        · refine X.opsEnd ?_
          refine X.condT rfl ?_
          refine X.seq ?_
          refine X.region ?_
          refine X.opw X.wN rfl (X.loadNB Try.isAgg70 Try.sizeOf70 ((hBx.ext hx7 (fun h => absurd (hUb _ (h)) (by (try simp only []); omega))).keep ((hk8.step hx9 (by intros; (try simp only [] at *); omega)).trans hk11)) rfl rfl rfl) ?_
          refine X.opE X.wN rfl (X.storeNE Try.sizeOf70 ((hBq.ext hx7 (fun h => absurd (hUb _ (h)) (by (try simp only []); omega))).keep ((hk8.step hx9 (by intros; (try simp only [] at *); omega)).trans hk11)) rfl rfl rfl rfl (fun u hu => by simp at hu; rcases hu with rfl | rfl <;> rfl)) ?_
          rintro _ w12 ⟨hB12, hx12, hz12⟩
          refine X.opw X.wN rfl (X.assign rfl) ?_
          refine X.opsEnd ?_
          refine X.ret_unw (X.unwR2 Try.func63 Try.results63 (X.ResOk.cell rfl (X.lvN Try.isAgg70 Try.sizeOf70 hB12 rfl)) (show X.ResOk _ _ _ (.tmp 2) (.bool _) from rfl) ?_)
          have hab2 : absC (eqC B0 w0) y2 l' = (x, (y7 :: m')) := by rw [← ha]; exact hab
          have hz : x.2 ≠ 0 := by simpa using h40
          have hsm : sumC (eqC B0 w0) ys = x :: sumC (eqC B0 w0) (y7 :: m') := by rw [← hs1, sumC_cons, hab2, if_pos hz]
          rw [hsm]
          exact ⟨rfl, (Ext.andThen (Ext.andThen (Ext.andThen (Ext.andThen (Ext.andThen hE hx7 (by intro k h1 h2; first | exact h2 | exact .inr h2 | exact (h2 : False).elim | (exfalso; (try simp only [] at *); omega))) hk8 (by intro k h1 h2; first | exact h2 | exact .inr h2 | exact (h2 : False).elim | (exfalso; (try simp only [] at *); omega))) hx9 (by intro k h1 h2; first | exact h2 | exact .inr h2 | exact (h2 : False).elim | (exfalso; (try simp only [] at *); omega))) hk11 (by intro k h1 h2; first | exact h2 | exact .inr h2 | exact (h2 : False).elim | (exfalso; (try simp only [] at *); omega))) hx12 (by intro k h1 h2; first | exact h2 | exact .inr h2 | exact (h2 : False).elim | (exfalso; (try simp only [] at *); omega))), fun _ => ⟨(y7 :: m'), rfl, (.inr ⟨_, hH7.ext (Ext.andThen (Ext.andThen (Ext.andThen (Ext.andThen (Ext.refl (fun k => w.heap.size ≤ k) _) hk8 (by intro k h1 h2; first | exact (h2 : False).elim | omega | ((try simp only [] at *); omega))) hx9 (by intro k h1 h2; first | exact (h2 : False).elim | omega | ((try simp only [] at *); omega))) hk11 (by intro k h1 h2; first | exact (h2 : False).elim | omega | ((try simp only [] at *); omega))) hx12 (by intro k h1 h2; first | exact (h2 : False).elim | omega | ((try simp only [] at *); omega))) (fun k hk h => ⟨by omega, fun ht => by have := hTb k ht; omega, by omega⟩)⟩), fun z h => hs2 z (List.mem_cons_of_mem _ (ham z h))⟩⟩
        · refine X.opsEnd ?_
          refine X.condF rfl ?_
          refine X.skip ?_
          refine X.inBlock ?_
          have hab2 : absC (eqC B0 w0) y2 l' = (x, (y7 :: m')) := by rw [← ha]; exact hab
          have hz : x.2 = 0 := by simpa using h40
          refine hback (y7 :: m') _ _ ⟨rfl, rfl, trivial⟩ ⟨by rw [← hs1, sumC_cons y2 l', hab2, if_neg (by simpa using hz)], fun z h => hs2 z (List.mem_cons_of_mem _ (ham z h)), ((hBp.ext hx7 (fun h => (hsep _ (h)) rfl)).keep ((hk8.step hx9 (by intros; (try simp only [] at *); omega)).trans hk11)), ((hBq.ext hx7 (fun h => absurd (hUb _ (h)) (by (try simp only []); omega))).keep ((hk8.step hx9 (by intros; (try simp only [] at *); omega)).trans hk11)), (.inr ⟨_, hH7.ext (Ext.andThen (Ext.andThen (Ext.andThen (Ext.refl (fun k => w.heap.size ≤ k) _) hk8 (by intro k h1 h2; first | exact (h2 : False).elim | omega | ((try simp only [] at *); omega))) hx9 (by intro k h1 h2; first | exact (h2 : False).elim | omega | ((try simp only [] at *); omega))) hk11 (by intro k h1 h2; first | exact (h2 : False).elim | omega | ((try simp only [] at *); omega))) (fun k hk h => ⟨by omega, fun ht => by have := hTb k ht; omega, by omega⟩)⟩), (Ext.andThen (Ext.andThen (Ext.andThen (Ext.andThen hE hx7 (by intro k h1 h2; first | exact h2 | exact .inr h2 | exact (h2 : False).elim | (exfalso; (try simp only [] at *); omega))) hk8 (by intro k h1 h2; first | exact h2 | exact .inr h2 | exact (h2 : False).elim | (exfalso; (try simp only [] at *); omega))) hx9 (by intro k h1 h2; first | exact h2 | exact .inr h2 | exact (h2 : False).elim | (exfalso; (try simp only [] at *); omega))) hk11 (by intro k h1 h2; first | exact h2 | exact .inr h2 | exact (h2 : False).elim | (exfalso; (try simp only [] at *); omega))), by omega⟩ (by simp only [List.length_cons, List.length_nil] at *; omega)
      · have hab : absC (eqC B0 w0) x (y7 :: m') = absC (eqC B0 w0) (x.1, IntKind.i64.wrap (x.2 + y7.2)) m' := by rw [absC, eqC, if_pos (by simpa using h28)]
        refine X.opw X.wN rfl (X.pickF (v := .bool false) rfl rfl) ?_
        refine X.opsEnd ?_
        refine X.condF rfl ?_
        refine X.skip ?_
        refine X.seq ?_
        refine X.region ?_
        refine X.opw X.wN rfl (X.fldB (j := 1) Try.underlying70 rfl rfl Try.sizeOf2 rfl) ?_
        refine X.opw X.wN rfl (X.load1B Try.isAgg2 ((hBx.ext hx7 (fun h => absurd (hUb _ (h)) (by (try simp only []); omega))).keep ((hk8.step hx9 (by intros; (try simp only [] at *); omega)).trans hk11)) rfl rfl) ?_
        refine X.opw X.wN rfl (X.fldB (j := 1) Try.underlying70 rfl rfl Try.sizeOf2 rfl) ?_
        refine X.opw X.wN rfl (X.load1B Try.isAgg2 (hB9.keep hk11) rfl rfl) ?_
        refine X.opw X.wN rfl (X.add (c := IntKind.i64.wrap (x.2 + _)) rfl rfl rfl) ?_
        refine X.opw X.wN rfl (X.fldB (j := 1) Try.underlying70 rfl rfl Try.sizeOf2 rfl) ?_
        refine X.opE X.wN rfl (X.storeE Try.sizeOf2 ((hBx.ext hx7 (fun h => absurd (hUb _ (h)) (by (try simp only []); omega))).keep ((hk8.step hx9 (by intros; (try simp only [] at *); omega)).trans hk11)) rfl rfl rfl rfl) ?_
        rintro _ w13 ⟨hB13, hx13, hz13⟩
        refine X.opsEnd ?_
        refine X.region ?_
        refine X.opw X.wN rfl (X.load1B Try.isAgg103 (((hBp.ext hx7 (fun h => (hsep _ (h)) rfl)).keep ((hk8.step hx9 (by intros; (try simp only [] at *); omega)).trans hk11)).ext hx13 (by intros; (try simp only []); omega)) rfl rfl) ?_
        refine X.opE X.wN rfl (X.callE (cpass_c _ (hHy7.ext (Ext.andThen (Ext.andThen (Ext.andThen (Ext.andThen (Ext.refl (fun k => w.heap.size ≤ k) _) hk8 (by intro k h1 h2; first | exact (h2 : False).elim | omega | ((try simp only [] at *); omega))) hx9 (by intro k h1 h2; first | exact (h2 : False).elim | omega | ((try simp only [] at *); omega))) hk11 (by intro k h1 h2; first | exact (h2 : False).elim | omega | ((try simp only [] at *); omega))) hx13 (by intro k h1 h2; first | exact (h2 : False).elim | omega | ((try simp only [] at *); omega))) (fun k hk h => ⟨by omega, fun ht => by have := hTb k ht; omega, by omega⟩)) hBh hTh) Try.call65 rfl rfl) ?_
        rintro _ w14 ⟨rfl, hH14, hx14⟩
        have hx14' := hx14.size
        refine X.opsEnd ?_
        refine X.inBlock ?_
        refine hback2 ((x.1, IntKind.i64.wrap (x.2 + y7.2)), m') _ _ ⟨rfl, rfl, rfl, trivial⟩ ⟨hab.symm.trans ha, hah, fun z h => ham z (List.mem_cons_of_mem _ h), Nat.le_of_succ_le hal, (hB13.ext hx14 (fun h => absurd (hUb _ (.inr h)) (by (try simp only []); omega))), ((((hBp.ext hx7 (fun h => (hsep _ (h)) rfl)).keep ((hk8.step hx9 (by intros; (try simp only [] at *); omega)).trans hk11)).ext hx13 (by intros; (try simp only []); omega)).ext hx14 (fun h => (hsep _ (.inr h)) rfl)), ((((hBq.ext hx7 (fun h => absurd (hUb _ (h)) (by (try simp only []); omega))).keep ((hk8.step hx9 (by intros; (try simp only [] at *); omega)).trans hk11)).ext hx13 (by intros; (try simp only []); omega)).ext hx14 (fun h => absurd (hUb _ (.inr h)) (by (try simp only []); omega))), hH14, (Ext.andThen (Ext.andThen (Ext.andThen (Ext.andThen (Ext.andThen (Ext.andThen hE hx7 (by intro k h1 h2; first | exact h2 | exact .inr h2 | exact (h2 : False).elim | (exfalso; (try simp only [] at *); omega))) hk8 (by intro k h1 h2; first | exact h2 | exact .inr h2 | exact (h2 : False).elim | (exfalso; (try simp only [] at *); omega))) hx9 (by intro k h1 h2; first | exact h2 | exact .inr h2 | exact (h2 : False).elim | (exfalso; (try simp only [] at *); omega))) hk11 (by intro k h1 h2; first | exact h2 | exact .inr h2 | exact (h2 : False).elim | (exfalso; (try simp only [] at *); omega))) hx13 (by intro k h1 h2; first | exact h2 | exact .inr h2 | exact (h2 : False).elim | (exfalso; (try simp only [] at *); omega))) hx14 (by intro k h1 h2; first | exact h2 | exact .inr h2 | exact (h2 : False).elim | (exfalso; (try simp only [] at *); omega))), by omega, by omega⟩ (by simp)
end Go.Proofs.Ytgfficbkajcdpaa

namespace Go.Proofs.Ytgfficbkajcdpaa
open Go Go.Proofs.Ytgfficbkajcdpaa.X
set_option linter.unusedVariables false
set_option linter.unusedSimpArgs false
theorem mgCC_mem {lt : CT → CT → Bool} {n : Nat} : ∀ (t : Nat) (L : Nat → List CT), totLC L n = t → ∀ x, x ∈ mgCC lt n L → ∃ j, j < n ∧ x ∈ L j
  | 0, L, h, x, hx => by rw [mgCC, h] at hx; simp [mgFC] at hx
  | t + 1, L, h, x, hx => by
    cases hp : pkC lt L n with
    | none => rw [mgCC_none hp] at hx; simp at hx
    | some q =>
      obtain ⟨i, y⟩ := q
      rw [mgCC_some hp] at hx
      obtain ⟨h1, l, h2⟩ := pkC_some hp
      have h3 := totLC_upd h2 n
      rw [if_pos h1] at h3
      rcases List.mem_cons.1 hx with rfl | hx
      · exact ⟨i, h1, by rw [h2]; exact List.mem_cons_self⟩
      · obtain ⟨j, hj, hm⟩ := mgCC_mem t (updLC L i) (by omega) x hx
        exact ⟨j, hj, updLC_mem hm⟩
theorem csum_stp {B B0 a b hb c0 : Nat} {w0 : World} {Tt : Nat → Prop} {ys : List CT} {w : World} (h0 : Blk w c0 [ptrV hb] 103) (hd : HdC B Tt hb ys w) (hBa : B ≤ a) (hbw : b ≤ w.heap.size) (hTb : ∀ k, (Tt k ∨ k = hb) → a ≤ k ∧ k < b) (hc0 : a ≤ c0 ∧ c0 < b) (hTh : ¬ Tt hb) (hsep : ∀ k, (Tt k ∨ k = hb) → k ≠ c0) (hB0 : B0 ≤ B) (hCW : CWc B0 w0 w) (hok : ∀ x, x ∈ ys → okC B0 w0 x) :
    Stp Try.prog evC zC B (fun k => a ≤ k ∧ k < b) (.func (.func 63) #[] #[ptrV c0]) (sumC (eqC B0 w0) ys) w := by
  refine ⟨fun xs w => ∃ ys, xs = sumC (eqC B0 w0) ys ∧ b ≤ w.heap.size ∧ Blk w c0 [ptrV hb] 103 ∧ HdC B Tt hb ys w ∧ CWc B0 w0 w ∧ (∀ x, x ∈ ys → okC B0 w0 x), ⟨ys, rfl, hbw, h0, hd, hCW, hok⟩, ?_, ?_⟩
  · rintro xs w w' ⟨ys, g1, g2, g3, g4, g5, g6⟩ ha
    have hz := ha.size
    exact ⟨ys, g1, by omega, ha.blk g3 hc0, g4.ext ha fun k _ hk => ⟨hk.1, fun h => hk.2 (hTb k (.inl h)), fun h => hk.2 (hTb k (.inr h))⟩, g5.step (Ext.mono ha fun k _ h => Nat.le_trans hB0 h.1), g6⟩
  · rintro xs w ⟨ys, rfl, g2, g3, g4, g5, g6⟩
    refine YC.of_ret (args := []) (cap := [_]) ((CSum1_c w g3 g4 (by omega) (by have := hTb hb (.inr rfl); omega) (by have := hTb hb (.inr rfl); omega) hTh (fun k hk => by have := hTb k (.inl hk); omega) (fun k hk => by have := hTb k (.inl hk); omega) hB0 hsep g5 g6).mono ?_) Try.call63
    rintro r w' ⟨rfl, hx, hn'⟩
    have hz := hx.size
    refine ⟨rfl, hx.mono fun k _ hk => hTb k hk, fun hne => ?_⟩
    obtain ⟨ys', q1, q2, q3⟩ := hn' hne
    exact ⟨ys', q1, by omega, g3.ext hx (fun h => hsep _ h rfl), q2, g5.step (hx.mono fun k _ h => by have := hTb k h; omega), q3⟩
theorem CVC.isC {B : Nat} {T : Nat → Prop} {c : Value} {xs : List CT} {w : World} (h : CVC B T c xs w) : IsCC c := h.elim (fun h => .inl h.1) (fun ⟨p, h, _⟩ => .inr ⟨p, h⟩)
theorem CVC.keep {B : Nat} {T : Nat → Prop} {c : Value} {xs : List CT} {w w' : World} (h : CVC B T c xs w) (k : Keep w w') : CVC B T c xs w' := h.agree (Agree.of_keep k)
-- f44 "pedigree/merge.Sum" params [97] results [72] -> [(ResultVar.tmp 2)] nfree 0 ntmps 12 names ["l", "l", 
set_option maxHeartbeats 4000000 in
set_option maxRecDepth 100000 in
theorem CSum_c {B B0 a n : Nat} {w0 : World} {Tj : Nat → Nat → Prop} {L : Nat → List CT} {lo hi : Nat} {A : Option Addr} {c : Nat} {cs : List Value} (w : World) (hs : Sl KR1 lo hi w A n cs) (hn : n ≤ 1000000) (hBa : B ≤ a) (haw : a ≤ w.heap.size)
    (hT : ∀ j, j < n → ∀ k, Tj j k → a ≤ k ∧ k < w.heap.size) (hdis : ∀ i j, i < n → j < n → i ≠ j → ∀ k, Tj i k → ¬ Tj j k) (hcv : ∀ (j : Nat) y, cs[j]? = some y → CVC B (Tj j) y (L j) w) (hB0 : B0 ≤ B) (hCW : CWc B0 w0 w) (hok : ∀ j, j < n → ∀ x, x ∈ L j → okC B0 w0 x) :
    Ret Try.prog 44 #[.slice A n c] w fun r w' => (∃ p, r = .iface 108 p) ∧ CVC B (fun k => a ≤ k ∧ k < w'.heap.size) r (sumC (eqC B0 w0) (mgCC (ltC B0 w0) n L)) w' ∧ Keep w w' := by
  refine X.enter Try.func44 rfl Try.ntmps44 rfl ?_
  refine X.seq ?_
  refine X.region ?_
  refine X.opw X.wN rfl (X.assign rfl) ?_
  refine X.opsEnd ?_
  refine X.seq ?_
  refine X.region ?_
  refine X.opw X.wN rfl (X.move (v := .slice _ _ _) rfl) ?_
  refine X.opE X.wN rfl (X.callE (CMerge_c (ok := okC B0 w0) (lt := ltC B0 w0) (CW := CWc B0 w0) _ hs hn hBa (by omega) hT hdis hcv hok hCW (fun w w' h x => h.step (x.mono fun k _ h => Nat.le_trans hB0 h)) (fun x y wa h1 h2 h3 => ahead_cmp x y wa h1 h2 h3)) Try.call61 rfl rfl) ?_
  rintro _ w1 ⟨⟨p1, rfl⟩, hC1, hk1⟩
  have hk1' := hk1.size
  refine X.opw X.wN rfl (X.buildB (vs := [(0, .iface 108 p1)]) (cs := #[.iface 108 p1, .slice none 0 0, .int .i64 0, .bool false, .bool false]) rfl (cbuild_hd _ (CVC.isC hC1))) ?_
  refine X.opE X.wN rfl (X.boxE rfl rfl) ?_
  rintro _ w2 ⟨rfl, hB2, hk2, hz2⟩
  refine X.opE X.wN rfl (X.allocE Try.zeroValue103 rfl) ?_
  rintro _ w3 ⟨rfl, hB3, hk3, hz3⟩
  refine X.opE X.wN rfl (X.storeE Try.sizeOf103 hB3 rfl rfl rfl rfl) ?_
  rintro _ w4 ⟨hB4, hx4, hz4⟩
  refine X.opsEnd ?_
  refine X.seq ?_
  refine X.region ?_
  refine X.opw X.wN rfl (X.mkFunc rfl) ?_
  refine X.opw X.wN rfl (X.buildB (vs := [(0, .func (.func 63) #[] #[ptrV (w2.heap.size)])]) (cs := #[.func (.func 63) #[] #[ptrV (w2.heap.size)], .bool false]) rfl (by kernel_rfl)) ?_
  refine X.opE X.wN rfl (X.boxE rfl rfl) ?_
  rintro _ w5 ⟨rfl, hB5, hk5, hz5⟩
  refine X.opw X.wN rfl (X.mkIface Try.underlying108 rfl rfl) ?_
  refine X.opw X.wN rfl (X.assign rfl) ?_
  refine X.opsEnd ?_
  refine X.ret1 Try.func44 Try.results44 rfl ?_
  refine ⟨⟨_, rfl⟩, ?_, ((((hk1.trans hk2).trans hk3).step hx4 (by intros; (try simp only [] at *); omega)).trans hk5)⟩
  exact CVC.wide (ccur_made (a := a) (b := w4.heap.size) (csum_stp (Tt := fun k => a ≤ k ∧ k < w1.heap.size) (hB4.keep hk5) (.inl ⟨_, zC, (hB2.keep ((hk3.step hx4 (by intros; (try simp only [] at *); omega)).trans hk5)), (hC1.keep (((hk2.trans hk3).step hx4 (by intros; (try simp only [] at *); omega)).trans hk5))⟩) hBa (by omega) (fun k hk => by (try simp only [] at *); omega) (by omega) (by (try simp only []); omega) (fun k hk => by (try simp only [] at *); omega) hB0 (hCW.step (((((hk1.trans hk2).trans hk3).step hx4 (by intros; (try simp only [] at *); omega)).trans hk5).mono fun _ _ h => h.elim)) (fun x hx => by
    obtain ⟨j, hj, hm⟩ := mgCC_mem _ L rfl x hx
    exact hok j hj x hm)) hB5 (by omega) (Nat.le_refl _) (by omega)) (fun k hk => by omega)
end Go.Proofs.Ytgfficbkajcdpaa

namespace Go.Proofs.Ytgfficbkajcdpaa
open Go Go.Proofs.Ytgfficbkajcdpaa.X
set_option linter.unusedVariables false
set_option linter.unusedSimpArgs false
-- f55 "pedigree/merge.Only[pedigree/pedigreeref09.Thing]$1" params [] results [29, 4] -> [(ResultVar.cell 2 2
set_option maxHeartbeats 4000000 in
set_option maxRecDepth 100000 in
theorem Only1_c (q : TH → Bool) (PW : World → Prop) {B c3 c2 : Nat} {Tc : Nat → Prop} {xs0 : List TH} {pv p : Value} (w : World) (hbl : Blk w c3 [.iface 84 p] 33 ∧ Blk w c2 [pv] 46) (hC : Cur Try.prog evT (0, 0) NX B Tc p xs0 w) (hP0 : PW w) (hBs : B ≤ w.heap.size) (hsep : ∀ k, Tc k → B ≤ k ∧ k ≠ c3 ∧ k ≠ c2 ∧ k < w.heap.size) (hPW : ∀ w w', PW w → Ext (fun k => B ≤ k) w w' → PW w')
    (hpr : ∀ (x : TH) (wa : World), PW wa → YC Try.prog pv [evT x] wa fun r wb => r = .bool (q x) ∧ Keep wa wb) :
    Ret Try.prog 55 #[.pointer (some ⟨c3, 0, none⟩), .pointer (some ⟨c2, 0, none⟩)] w fun r w' => r = hdV evT (0, 0) (xs0.filter q) ∧ Ext Tc w w' ∧ (xs0.filter q ≠ [] → ∃ xs, (xs0.filter q).tail = xs.filter q ∧ Cur Try.prog evT (0, 0) NX B Tc p xs w' ∧ (Blk w' c3 [.iface 84 p] 33 ∧ Blk w' c2 [pv] 46) ∧ PW w') := by
  obtain ⟨h3, h2⟩ := hbl
  have h3l := h3.lt
  have h2l := h2.lt
  refine X.enter Try.func55 rfl Try.ntmps55 rfl ?_
  refine X.seq ?_
  refine X.region ?_
  refine X.opE X.wN rfl (X.allocE Try.zeroValue29 rfl) ?_
  rintro _ w1 ⟨rfl, hB1, hk1, hz1⟩
  refine X.opw X.wN rfl (X.assign rfl) ?_
  refine X.opsEnd ?_
  refine X.block ?_
  -- LOOP live: 0, 1, 2=x
  refine X.loopL (σ := TH × List TH) (fun s => [(0, .pointer (some ⟨c3, 0, none⟩)), (1, .pointer (some ⟨c2, 0, none⟩)), (2, .pointer (some ⟨w.heap.size, 0, none⟩))]) (fun s w' => s.2.filter q = xs0.filter q ∧ (Blk w' c3 [.iface 84 p] 33 ∧ Blk w' c2 [pv] 46) ∧ Blk w' w.heap.size [.int .i8 s.1.1, .int .i64 s.1.2] 29 ∧ Cur Try.prog evT (0, 0) NX B Tc p s.2 w' ∧ PW w' ∧ Ext Tc w w' ∧ w.heap.size < w'.heap.size) (fun s => s.2.length) ((0, 0), xs0) ⟨rfl, rfl, rfl, trivial⟩ ⟨rfl, ⟨(h3.keep hk1), (h2.keep hk1)⟩, hB1, hC.keep hk1, hPW _ _ hP0 (hk1.mono fun _ _ h => h.elim), hk1.mono (fun _ _ h => h.elim), by omega⟩ ?_
  rintro ⟨z, xs⟩ b0 wl ⟨hol, ⟨hBa, hBb⟩, hBz, hCc, hP, hE, hwl⟩ hback
  dsimp only
  simp only at hol hBz hCc
  refine X.block ?_
  refine X.seq ?_
  refine X.region ?_
  refine X.opw X.wN rfl (X.load1B Try.isAgg33 hBa rfl rfl) ?_
  refine X.opE X.wN rfl (X.invokeE rfl (next_m _) hCc.next Try.call98) ?_
  rintro _ w2 ⟨rfl, hx2, hC2⟩
  have hx2' := hx2.size
  refine X.opw X.wN rfl (X.move rfl) ?_
  refine X.opw X.wN rfl (X.extr rfl rfl) ?_
  refine X.opw X.wN rfl (X.extr rfl rfl) ?_
  refine X.opE X.wN rfl (X.storeNE Try.sizeOf29 (hBz.ext hx2 (by intro h; have := hsep _ h; omega)) rfl rfl rfl rfl (fun u hu => by simp at hu; rcases hu with rfl | rfl <;> rfl)) ?_
  rintro _ w3 ⟨hB3, hx3, hz3⟩
  refine X.opw X.wN rfl (X.assign (v := .bool _) rfl) ?_
  refine X.opsEnd ?_
  refine X.seq ?_
  refine X.region ?_
  refine X.opw X.wN rfl (X.move (v := .bool _) rfl) ?_
  refine X.opw X.wN rfl (X.not_ rfl) ?_
  refine X.opw X.wN rfl (X.move (v := .bool _) rfl) ?_
  refine X.forkO 11 rfl (fun h11 => ?_) (fun h11 => ?_)
  · obtain rfl : xs = [] := by simpa using h11
    refine X.opS rfl rfl rfl rfl rfl ?_
    refine X.opS rfl rfl rfl rfl rfl ?_
    refine X.opS rfl rfl rfl rfl rfl ?_
    refine X.opw X.wN rfl (X.pickT (v := .bool true) rfl rfl) ?_
    refine X.opsEnd ?_
    refine X.condT rfl ?_
    refine X.seq ?_
    refine X.region ?_
    refine X.opw X.wN rfl (X.loadNB Try.isAgg29 Try.sizeOf29 hB3 rfl rfl rfl) ?_
    refine X.opw X.wN rfl (X.move (v := .bool _) rfl) ?_
    refine X.opE X.wN rfl (X.storeNE Try.sizeOf29 hB3 rfl rfl rfl rfl (fun u hu => by simp at hu; rcases hu with rfl | rfl <;> rfl)) ?_
    rintro _ w4 ⟨hB4, hx4, hz4⟩
    refine X.opw X.wN rfl (X.assign (v := .bool _) rfl) ?_
    refine X.opsEnd ?_
    refine X.ret_unw (X.unwR2 Try.func55 Try.results55 (X.ResOk.cell rfl (X.lvN Try.isAgg29 Try.sizeOf29 hB4 rfl)) (show X.ResOk _ _ _ (.tmp 3) (.bool _) from rfl) ?_)
    rw [← hol]
    exact ⟨rfl, (Ext.andThen (Ext.andThen (Ext.andThen hE hx2 (by intro k h1 h2; first | exact (h2 : False).elim | exact h2 | (exfalso; (try simp only [] at *); omega))) hx3 (by intro k h1 h2; first | exact (h2 : False).elim | exact h2 | (exfalso; (try simp only [] at *); omega))) hx4 (by intro k h1 h2; first | exact (h2 : False).elim | exact h2 | (exfalso; (try simp only [] at *); omega))), fun h => absurd rfl h⟩
  · obtain ⟨x, xs', rfl⟩ : ∃ x xs', xs = x :: xs' := by
      cases xs with
      | nil => simp at h11
      | cons x xs' => exact ⟨x, xs', rfl⟩
    refine X.opw (X.wG rfl rfl rfl) rfl (X.load1B Try.isAgg46 ((hBb.ext hx2 (by intro h; have := hsep _ h; omega)).ext hx3 (by first | (intros; (try simp only []); omega) | (intro h; have := hsep _ h; omega))) rfl rfl) ?_
    refine X.opw (X.wG rfl rfl rfl) rfl (X.loadNB Try.isAgg29 Try.sizeOf29 hB3 rfl rfl rfl) ?_
    refine X.opE (X.wG rfl rfl rfl) rfl ((hpr x _ (hPW _ _ hP (Ext.andThen (Ext.andThen (Ext.refl (fun k => B ≤ k) _) hx2 (by intro k h1 h2; first | exact (h2 : False).elim | exact (hsep k h2).1 | (have := hsep k h2; omega) | ((try simp only [] at *); omega))) hx3 (by intro k h1 h2; first | exact (h2 : False).elim | exact (hsep k h2).1 | (have := hsep k h2; omega) | ((try simp only [] at *); omega))))) _ _ _ _ _ _ _ _ _ rfl rfl) ?_
    rintro _ w5 ⟨rfl, hk5⟩
    have hk5' := hk5.size
    refine X.opw X.wN rfl (X.pickF (v := .bool _) rfl rfl) ?_
    refine X.opsEnd ?_
    refine X.condB rfl (fun hc => ?_) (fun hc => ?_)
    · have hq : q x = true := hc
      refine X.seq ?_
      refine X.region ?_
      refine X.opw X.wN rfl (X.loadNB Try.isAgg29 Try.sizeOf29 (hB3.keep hk5) rfl rfl rfl) ?_
      refine X.opw X.wN rfl (X.move (v := .bool _) rfl) ?_
      refine X.opE X.wN rfl (X.storeNE Try.sizeOf29 (hB3.keep hk5) rfl rfl rfl rfl (fun u hu => by simp at hu; rcases hu with rfl | rfl <;> rfl)) ?_
      rintro _ w6 ⟨hB6, hx6, hz6⟩
      refine X.opw X.wN rfl (X.assign (v := .bool _) rfl) ?_
      refine X.opsEnd ?_
      refine X.ret_unw (X.unwR2 Try.func55 Try.results55 (X.ResOk.cell rfl (X.lvN Try.isAgg29 Try.sizeOf29 hB6 rfl)) (show X.ResOk _ _ _ (.tmp 3) (.bool _) from rfl) ?_)
      rw [← hol, List.filter_cons, if_pos hq]
      exact ⟨rfl, (Ext.andThen (Ext.andThen (Ext.andThen (Ext.andThen hE hx2 (by intro k h1 h2; first | exact (h2 : False).elim | exact h2 | (exfalso; (try simp only [] at *); omega))) hx3 (by intro k h1 h2; first | exact (h2 : False).elim | exact h2 | (exfalso; (try simp only [] at *); omega))) hk5 (by intro k h1 h2; first | exact (h2 : False).elim | exact h2 | (exfalso; (try simp only [] at *); omega))) hx6 (by intro k h1 h2; first | exact (h2 : False).elim | exact h2 | (exfalso; (try simp only [] at *); omega))), fun _ => ⟨xs', rfl, (((hC2.ext hx3 (by intro k hk hk2; refine ⟨?_, fun ht => ?_⟩ <;> ((try simp only [] at *); first | omega | (have := hsep k ht; omega)))).keep hk5).ext hx6 (by intro k hk hk2; refine ⟨?_, fun ht => ?_⟩ <;> ((try simp only [] at *); first | omega | (have := hsep k ht; omega)))), ⟨((((hBa.ext hx2 (by intro h; have := hsep _ h; omega)).ext hx3 (by first | (intros; (try simp only []); omega) | (intro h; have := hsep _ h; omega))).keep hk5).ext hx6 (by first | (intros; (try simp only []); omega) | (intro h; have := hsep _ h; omega))), ((((hBb.ext hx2 (by intro h; have := hsep _ h; omega)).ext hx3 (by first | (intros; (try simp only []); omega) | (intro h; have := hsep _ h; omega))).keep hk5).ext hx6 (by first | (intros; (try simp only []); omega) | (intro h; have := hsep _ h; omega)))⟩, (hPW _ _ hP (Ext.andThen (Ext.andThen (Ext.andThen (Ext.andThen (Ext.refl (fun k => B ≤ k) _) hx2 (by intro k h1 h2; first | exact (h2 : False).elim | exact (hsep k h2).1 | (have := hsep k h2; omega) | ((try simp only [] at *); omega))) hx3 (by intro k h1 h2; first | exact (h2 : False).elim | exact (hsep k h2).1 | (have := hsep k h2; omega) | ((try simp only [] at *); omega))) hk5 (by intro k h1 h2; first | exact (h2 : False).elim | exact (hsep k h2).1 | (have := hsep k h2; omega) | ((try simp only [] at *); omega))) hx6 (by intro k h1 h2; first | exact (h2 : False).elim | exact (hsep k h2).1 | (have := hsep k h2; omega) | ((try simp only [] at *); omega))))⟩⟩
    · have hq : ¬ q x = true := by simpa using hc
      refine X.skip ?_
      refine X.inBlock ?_
      refine hback (x, xs') _ _ ⟨rfl, rfl, rfl, trivial⟩ ⟨by rw [← hol, List.filter_cons, if_neg hq], ⟨(((hBa.ext hx2 (by intro h; have := hsep _ h; omega)).ext hx3 (by first | (intros; (try simp only []); omega) | (intro h; have := hsep _ h; omega))).keep hk5), (((hBb.ext hx2 (by intro h; have := hsep _ h; omega)).ext hx3 (by first | (intros; (try simp only []); omega) | (intro h; have := hsep _ h; omega))).keep hk5)⟩, (hB3.keep hk5), ((hC2.ext hx3 (by intro k hk hk2; refine ⟨?_, fun ht => ?_⟩ <;> ((try simp only [] at *); first | omega | (have := hsep k ht; omega)))).keep hk5), (hPW _ _ hP (Ext.andThen (Ext.andThen (Ext.andThen (Ext.refl (fun k => B ≤ k) _) hx2 (by intro k h1 h2; first | exact (h2 : False).elim | exact (hsep k h2).1 | (have := hsep k h2; omega) | ((try simp only [] at *); omega))) hx3 (by intro k h1 h2; first | exact (h2 : False).elim | exact (hsep k h2).1 | (have := hsep k h2; omega) | ((try simp only [] at *); omega))) hk5 (by intro k h1 h2; first | exact (h2 : False).elim | exact (hsep k h2).1 | (have := hsep k h2; omega) | ((try simp only [] at *); omega)))), (Ext.andThen (Ext.andThen (Ext.andThen hE hx2 (by intro k h1 h2; first | exact (h2 : False).elim | exact h2 | (exfalso; (try simp only [] at *); omega))) hx3 (by intro k h1 h2; first | exact (h2 : False).elim | exact h2 | (exfalso; (try simp only [] at *); omega))) hk5 (by intro k h1 h2; first | exact (h2 : False).elim | exact h2 | (exfalso; (try simp only [] at *); omega))), by omega⟩ (by simp)
theorem only_stp (q : TH → Bool) (PW : World → Prop) {B a b c3 c2 : Nat} {Tc : Nat → Prop} {xs0 : List TH} {pv p : Value} {w : World} (hbl : Blk w c3 [.iface 84 p] 33 ∧ Blk w c2 [pv] 46) (hC : Cur Try.prog evT (0, 0) NX B Tc p xs0 w) (hP0 : PW w) (hBa : B ≤ a) (hbw : b ≤ w.heap.size) (hT : ∀ k, Tc k → a ≤ k ∧ k < b) (h3 : a ≤ c3 ∧ c3 < b) (h2 : a ≤ c2 ∧ c2 < b)
    (hsep : ∀ k, Tc k → k ≠ c3 ∧ k ≠ c2) (hPW : ∀ w w', PW w → Ext (fun k => B ≤ k) w w' → PW w') (hpr : ∀ (x : TH) (wa : World), PW wa → YC Try.prog pv [evT x] wa fun r wb => r = .bool (q x) ∧ Keep wa wb) : Stp Try.prog evT (0, 0) B (fun k => a ≤ k ∧ k < b) (.func (.func 55) #[] #[ptrV c3, ptrV c2]) (xs0.filter q) w := by
  refine ⟨fun l w => ∃ xs0, l = xs0.filter q ∧ b ≤ w.heap.size ∧ (Blk w c3 [.iface 84 p] 33 ∧ Blk w c2 [pv] 46) ∧ Cur Try.prog evT (0, 0) NX B Tc p xs0 w ∧ PW w, ⟨xs0, rfl, hbw, hbl, hC, hP0⟩, ?_, ?_⟩
  · rintro l w w' ⟨xs, g1, g2, ⟨q3, q2⟩, g4, g5⟩ ha
    have hz := ha.size
    exact ⟨xs, g1, by omega, ⟨ha.blk q3 h3, ha.blk q2 h2⟩, g4.agree (ha.sub hT), hPW _ _ g5 (Ext.mono ha fun k _ h => h.1)⟩
  · rintro l w ⟨xs, rfl, g2, g3, g4, g5⟩
    refine YC.of_ret (args := []) (cap := [_, _]) ((Only1_c q PW w g3 g4 g5 (by omega) (fun k hk => by have := hsep k hk; have := hT k hk; omega) hPW hpr).mono ?_) Try.call55
    rintro r w' ⟨rfl, hx, hn'⟩
    have hz := hx.size
    refine ⟨rfl, hx.mono fun k _ hk => hT k hk, fun hne' => ?_⟩
    obtain ⟨xs', e1, e2, e3, e4⟩ := hn' hne'
    exact ⟨xs', e1, by omega, e3, e2, e4⟩
-- f33 "pedigree/merge.Only[pedigree/pedigreeref09.Thing]" params [46, 33] results [33] -> [(ResultVar.tmp 4)]
set_option maxHeartbeats 4000000 in
set_option maxRecDepth 100000 in
theorem Only_c (q : TH → Bool) (PW : World → Prop) {B a0 b0 : Nat} {p : Value} {l0 : List TH} {fn : Fn} {bs ca : Array Value} (w : World) (h0 : CV B (fun k => a0 ≤ k ∧ k < b0) (.iface 84 p) l0 w) (hP0 : PW w) (hB : B ≤ a0) (hab : a0 ≤ b0) (hb : b0 ≤ w.heap.size) (hPW : ∀ w w', PW w → Ext (fun k => B ≤ k) w w' → PW w') (hpr : ∀ (x : TH) (wa : World), PW wa → YC Try.prog (.func fn bs ca) [evT x] wa fun r wb => r = .bool (q x) ∧ Keep wa wb) :
    Ret Try.prog 33 #[.func fn bs ca, .iface 84 p] w fun r w' => (∃ p', r = .iface 84 p') ∧ CV B (fun k => a0 ≤ k ∧ k < w'.heap.size) r (l0.filter q) w' ∧ Keep w w' := by
  refine X.enter Try.func33 rfl Try.ntmps33 rfl ?_
  refine X.seq ?_
  refine X.region ?_
  refine X.opE X.wN rfl (X.boxE rfl rfl) ?_
  rintro _ w1 ⟨rfl, hB1, hk1, hz1⟩
  refine X.opE X.wN rfl (X.boxE rfl rfl) ?_
  rintro _ w2 ⟨rfl, hB2, hk2, hz2⟩
  refine X.opw X.wN rfl (X.assign rfl) ?_
  refine X.opsEnd ?_
  refine X.seq ?_
  refine X.seq ?_
  refine X.region ?_
  refine X.opw X.wN rfl (X.load1B Try.isAgg46 (hB1.keep hk2) rfl rfl) ?_
  refine X.opw X.wN rfl (X.eqFn1 Try.underlying46 rfl rfl) ?_
  refine X.opw X.wN rfl (X.move (v := .bool false) rfl) ?_
  refine X.opw (X.wG rfl rfl rfl) rfl (X.load1B Try.isAgg33 hB2 rfl rfl) ?_
  refine X.opw (X.wG rfl rfl rfl) rfl (X.eqIf1 Try.underlying33 rfl rfl) ?_
  refine X.opw X.wN rfl (X.pickF (v := .bool false) rfl rfl) ?_
  refine X.opsEnd ?_
  refine X.condF rfl ?_
  refine X.skip ?_
  refine X.seq ?_
  refine X.region ?_
  refine X.opw X.wN rfl (X.mkFunc rfl) ?_
  refine X.opw X.wN rfl (X.buildB (vs := [(0, .func (.func 55) #[] #[ptrV (w1.heap.size), ptrV (w.heap.size)])]) (cs := #[.func (.func 55) #[] #[ptrV (w1.heap.size), ptrV (w.heap.size)], .bool false]) rfl (by kernel_rfl)) ?_
  refine X.opE X.wN rfl (X.boxE rfl rfl) ?_
  rintro _ w3 ⟨rfl, hB3, hk3, hz3⟩
  refine X.opw X.wN rfl (X.mkIface Try.underlying84 rfl rfl) ?_
  refine X.opw X.wN rfl (X.assign rfl) ?_
  refine X.opsEnd ?_
  refine X.ret1 Try.func33 Try.results33 rfl ?_
  refine ⟨⟨_, rfl⟩, ?_, ((hk1.trans hk2).trans hk3)⟩
  exact CV.wide (cur_made (a := a0) (b := w2.heap.size) (only_stp q PW (Tc := fun k => a0 ≤ k ∧ k < b0) ⟨(hB2.keep hk3), (hB1.keep (hk2.trans hk3))⟩ (CV.cur (h0.keep ((hk1.trans hk2).trans hk3))) (hPW _ _ hP0 (((hk1.trans hk2).trans hk3).mono fun _ _ h => h.elim)) hB (by omega) (fun k hk => by omega) (by omega) (by omega) (fun k hk => by (try simp only [] at *); omega) hPW hpr) hB3 (by omega) (Nat.le_refl _) (by omega)) (fun k hk => by omega)
end Go.Proofs.Ytgfficbkajcdpaa

namespace Go.Proofs.Ytgfficbkajcdpaa
open Go Go.Proofs.Ytgfficbkajcdpaa.X
set_option linter.unusedVariables false
set_option linter.unusedSimpArgs false
def L3 (l : List TH) : Nat → List TH
  | 1 => l
  | _ => []
theorem mg_L3 (l : List TH) : mgC 3 (L3 l) = l := mg_one (i := 1) _ 3 (L3 l) rfl (by omega) (fun j hj hne => by
  match j, hj, hne with
  | 0, _, _ => rfl
  | 1, _, h => exact absurd rfl h
  | 2, _, _ => rfl)
theorem MergeN3_c {B a0 b0 lo hi c : Nat} {y : Value} {l : List TH} {fn : Fn} {bs ca : Array Value} {A : Option Addr} (w : World) (hs : Sl KR1 lo hi w A 3 [.nilIface, y, .nilIface]) (h0 : CV B (fun k => a0 ≤ k ∧ k < b0) y l w) (hB : B ≤ a0) (hab : a0 ≤ b0) (hb : b0 ≤ w.heap.size)
    (hcmp : ∀ (x y : TH) (wa : World), YC Try.prog (.func fn bs ca) [evT x, evT y] wa fun r wb => ∃ nc, r = .int .i64 nc ∧ (nc < 0 ↔ x.1 < y.1) ∧ Keep wa wb) : Ret Try.prog 16 #[.func fn bs ca, .slice A 3 c] w fun r w' => (∃ p, r = .iface 84 p) ∧ CV B (fun k => a0 ≤ k ∧ k < w'.heap.size) r l w' ∧ Keep w w' := by
  have q := Merge_c (n := 3) (L := L3 l) (Tj := fun j k => j = 1 ∧ a0 ≤ k ∧ k < b0) (c := c) w hs (by omega) hB (by omega) (fun j hj k hk => by omega) (fun i j hi hj hne k h1 h2 => by omega) ?_ hcmp
  · rw [mg_L3] at q; exact q
  · intro j y hy
    match j, hy with
    | 0, hy => cases hy; exact .inl ⟨rfl, rfl⟩
    | 1, hy => cases hy; exact h0.wide fun k hk => ⟨rfl, hk⟩
    | 2, hy => cases hy; exact .inl ⟨rfl, rfl⟩
    | n + 3, hy => simp at hy
theorem heldL_nil : ∀ l : List TH, heldL false l [] = l
  | [] => rfl
  | x :: l => by rw [heldL, if_pos (by rfl), show skipT x [] = [] from rfl, heldL_nil l]
theorem repsN {w : World} {U : TypeId} {p : Option Addr} : RepsV KR1 w [.nilIface, .iface U (.pointer p), .nilIface] [.nilIface, .iface U (.pointer p), .nilIface] := ⟨⟨_, rfl, rfl, rfl⟩, ⟨_, rfl, rfl, rfl⟩, ⟨_, rfl, rfl, rfl⟩, trivial⟩
theorem CVC.cur {B : Nat} {T : Nat → Prop} {p : Value} {xs : List CT} {w : World} (h : CVC B T (.iface 108 p) xs w) : Cur Try.prog evC zC NXC B T p xs w := by
  rcases h with ⟨h, _⟩ | ⟨p', h, h2⟩
  · cases h
  · cases h; exact h2
-- f11 "pedigree/pedigreelaw09.MergeNone" params [24] results [4] -> [(ResultVar.tmp 2)] nfree 0 ntmps 124 nam
set_option maxHeartbeats 4000000 in
set_option maxRecDepth 100000 in
theorem MergeNone_c (w : World) (A1 : Option Addr) (n1 c1 : Nat) (l1 : List TH) (hc1 : n1 ≤ c1) (s1 : Sl (Kd.pair (KN .i8) KI) 0 w.heap.size w A1 n1 l1) :
    Ret Try.prog 11 #[.slice A1 n1 c1] w fun r w' => r = .bool true ∧ Keep w w' := by
  have hsx := sl_things s1
  have hLH : heldL false (l1.take 30) [] = l1.take 30 := heldL_nil _
  refine X.enter Try.func11 rfl Try.ntmps11 rfl ?_
  refine X.seq ?_
  refine X.region ?_
  refine X.opw X.wN rfl (X.assign rfl) ?_
  refine X.opsEnd ?_
  refine X.seq ?_
  refine X.region ?_
  refine X.opw X.wN rfl (X.move (v := .slice _ _ _) rfl) ?_
  refine X.opE X.wN rfl (X.callE (short_c _ hsx (by omega)) Try.call19 rfl rfl) ?_
  rintro _ w1 ⟨mq, rfl, hmc, hm3, hsq, hk1⟩
  have hk1' := hk1.size
  refine X.opw X.wN rfl (X.assign (v := .slice _ _ _) rfl) ?_
  refine X.opsEnd ?_
  refine X.seq ?_
  refine X.region ?_
  refine X.opw X.wN rfl (X.assign rfl) ?_
  refine X.opsEnd ?_
  refine X.seq ?_
  refine X.region ?_
  refine X.opw X.wN rfl (X.move rfl) ?_
  refine X.opw X.wN rfl (X.move (v := .slice _ _ _) rfl) ?_
  refine X.opE X.wN rfl (X.callE (Of_c w.heap.size _ hsq (by omega) (by omega)) Try.call20 rfl rfl) ?_
  rintro _ w2 ⟨bm2, rfl, hC2, hk2⟩
  have hk2' := hk2.size
  refine X.opw X.wN rfl (X.move rfl) ?_
  refine X.opE X.wN rfl (X.litKF KR1_flat (K := KR1) (xs := [Operand.tmp 21, Operand.tmp 23, Operand.tmp 24]) (vs := [.nilIface, .iface 84 (.pointer (some ⟨bm2, 0, none⟩)), .nilIface]) (ys := [.nilIface, .iface 84 (.pointer (some ⟨bm2, 0, none⟩)), .nilIface]) Try.underlying36 Try.sizeOf33 Try.zeroValue33 rfl rfl rfl rfl rfl repsN) ?_
  rintro _ w3 ⟨rfl, hs3, hB3, hk3, hz3⟩
  refine X.opE X.wN rfl (X.callE (MergeN3_c _ hs3 (hC2.keep hk3) (by omega) (by omega) (by omega) cmp17) Try.call16 rfl rfl) ?_
  rintro _ w4 ⟨⟨p4, rfl⟩, hC4, hk4⟩
  have hk4' := hk4.size
  refine X.opE X.wN rfl (X.callE (rest_b _ (CV.cur hC4) (by omega) (fun k hk => by (try simp only [] at *); omega) (take_lt _)) Try.call15 rfl rfl) ?_
  rintro _ w5 ⟨v5, rfl, hM5, hx5⟩
  have hx5' := hx5.size
  refine X.opw X.wN rfl (X.move rfl) ?_
  refine X.opw X.wN rfl (X.extr rfl rfl) ?_
  refine X.opw X.wN rfl (X.extr rfl rfl) ?_
  refine X.opw X.wN rfl (X.assign rfl) ?_
  refine X.opw X.wN rfl (X.assign (v := .bool _) rfl) ?_
  refine X.opsEnd ?_
  refine X.seq ?_
  refine X.region ?_
  refine X.opw X.wN rfl (X.move (v := .slice _ _ _) rfl) ?_
  refine X.opE X.wN rfl (X.callE (Of_c w.heap.size _ ((hsq.keep ((hk2.trans hk3).trans hk4)).ext hx5 (by intros; (try simp only []); omega)) (by omega) (by omega)) Try.call20 rfl rfl) ?_
  rintro _ w6 ⟨bm6, rfl, hC6, hk6⟩
  have hk6' := hk6.size
  refine X.opE X.wN rfl (X.callE (OnceN_c w.heap.size _ _ (by omega)) Try.call26 rfl rfl) ?_
  rintro _ w7 ⟨⟨p7, rfl⟩, hC7, hk7⟩
  have hk7' := hk7.size
  refine X.opE X.wN rfl (X.callE (rest_b _ (CV.cur hC7) (by omega) (fun k hk => by (try simp only [] at *); omega) (by simp)) Try.call15 rfl rfl) ?_
  rintro _ w8 ⟨v8, rfl, hM8, hx8⟩
  have hx8' := hx8.size
  refine X.opw X.wN rfl (X.move rfl) ?_
  refine X.opw X.wN rfl (X.extr rfl rfl) ?_
  refine X.opw X.wN rfl (X.extr rfl rfl) ?_
  refine X.opw X.wN rfl (X.assign rfl) ?_
  refine X.opw X.wN rfl (X.assign (v := .bool _) rfl) ?_
  refine X.opsEnd ?_
  refine X.seq ?_
  refine X.region ?_
  refine X.opw X.wN rfl (X.move rfl) ?_
  refine X.opw X.wN rfl (X.move (v := .slice _ _ _) rfl) ?_
  refine X.opE X.wN rfl (X.callE (Of_c w.heap.size _ ((((hsq.keep ((hk2.trans hk3).trans hk4)).ext hx5 (by intros; (try simp only []); omega)).keep (hk6.trans hk7)).ext hx8 (by intros; (try simp only []); omega)) (by omega) (by omega)) Try.call20 rfl rfl) ?_
  rintro _ w9 ⟨bm9, rfl, hC9, hk9⟩
  have hk9' := hk9.size
  refine X.opE X.wN rfl (X.callE (BothN_c w.heap.size _ (by omega)) Try.call28 rfl rfl) ?_
  rintro _ w10 ⟨⟨p10, rfl⟩, hC10, hk10⟩
  have hk10' := hk10.size
  refine X.opE X.wN rfl (X.callE (rest_b _ (CV.cur hC10) (by omega) (fun k hk => by (try simp only [] at *); omega) (by simp)) Try.call15 rfl rfl) ?_
  rintro _ w11 ⟨v11, rfl, hM11, hx11⟩
  have hx11' := hx11.size
  refine X.opw X.wN rfl (X.move rfl) ?_
  refine X.opw X.wN rfl (X.extr rfl rfl) ?_
  refine X.opw X.wN rfl (X.extr rfl rfl) ?_
  refine X.opw X.wN rfl (X.assign rfl) ?_
  refine X.opw X.wN rfl (X.assign (v := .bool _) rfl) ?_
  refine X.opsEnd ?_
  refine X.seq ?_
  refine X.region ?_
  refine X.opw X.wN rfl (X.move (v := .slice _ _ _) rfl) ?_
  refine X.opE X.wN rfl (X.callE (Of_c w.heap.size _ ((((((hsq.keep ((hk2.trans hk3).trans hk4)).ext hx5 (by intros; (try simp only []); omega)).keep (hk6.trans hk7)).ext hx8 (by intros; (try simp only []); omega)).keep (hk9.trans hk10)).ext hx11 (by intros; (try simp only []); omega)) (by omega) (by omega)) Try.call20 rfl rfl) ?_
  rintro _ w12 ⟨bm12, rfl, hC12, hk12⟩
  have hk12' := hk12.size
  refine X.opw X.wN rfl (X.move rfl) ?_
  refine X.opE X.wN rfl (X.callE (Less_c (l1 := []) (a1 := w12.heap.size) (b1 := w12.heap.size) _ hC12 (.inl ⟨rfl, rfl⟩) (by omega) (by omega) (by omega) (by omega) (by omega) cmpOk17) Try.call29 rfl rfl) ?_
  rintro _ w13 ⟨⟨p13, rfl⟩, hC13, hk13⟩
  have hk13' := hk13.size
  refine X.opE X.wN rfl (X.callE (rest_b _ (CV.cur hC13) (by omega) (fun k hk => by (try simp only [] at *); omega) (by rw [heldL_nil]; exact take_lt _)) Try.call15 rfl rfl) ?_
  rintro _ w14 ⟨v14, rfl, hM14, hx14⟩
  have hx14' := hx14.size
  refine X.opw X.wN rfl (X.move rfl) ?_
  refine X.opw X.wN rfl (X.extr rfl rfl) ?_
  refine X.opw X.wN rfl (X.extr rfl rfl) ?_
  refine X.opw X.wN rfl (X.assign rfl) ?_
  refine X.opw X.wN rfl (X.assign (v := .bool _) rfl) ?_
  refine X.opsEnd ?_
  refine X.seq ?_
  refine X.region ?_
  refine X.opw X.wN rfl (X.move (v := .slice _ _ _) rfl) ?_
  refine X.opE X.wN rfl (X.callE (Of_c w.heap.size _ ((((((((hsq.keep ((hk2.trans hk3).trans hk4)).ext hx5 (by intros; (try simp only []); omega)).keep (hk6.trans hk7)).ext hx8 (by intros; (try simp only []); omega)).keep (hk9.trans hk10)).ext hx11 (by intros; (try simp only []); omega)).keep (hk12.trans hk13)).ext hx14 (by intros; (try simp only []); omega)) (by omega) (by omega)) Try.call20 rfl rfl) ?_
  rintro _ w15 ⟨bm15, rfl, hC15, hk15⟩
  have hk15' := hk15.size
  refine X.opE X.wN rfl (X.callE (OnlyN_c w.heap.size _ _ (by omega)) Try.call33 rfl rfl) ?_
  rintro _ w16 ⟨⟨p16, rfl⟩, hC16, hk16⟩
  have hk16' := hk16.size
  refine X.opE X.wN rfl (X.callE (rest_b _ (CV.cur hC16) (by omega) (fun k hk => by (try simp only [] at *); omega) (by simp)) Try.call15 rfl rfl) ?_
  rintro _ w17 ⟨v17, rfl, hM17, hx17⟩
  have hx17' := hx17.size
  refine X.opw X.wN rfl (X.move rfl) ?_
  refine X.opw X.wN rfl (X.extr rfl rfl) ?_
  refine X.opw X.wN rfl (X.extr rfl rfl) ?_
  refine X.opw X.wN rfl (X.assign rfl) ?_
  refine X.opw X.wN rfl (X.assign (v := .bool _) rfl) ?_
  refine X.opsEnd ?_
  refine X.seq ?_
  refine X.region ?_
  refine X.opw X.wN rfl (X.move rfl) ?_
  refine X.opE X.wN rfl (X.callE (FirstN_c w.heap.size _ _ (by omega)) Try.call34 rfl rfl) ?_
  rintro _ w18 ⟨⟨p18, rfl⟩, hC18, hk18⟩
  have hk18' := hk18.size
  refine X.opE X.wN rfl (X.callE (rest_b _ (CV.cur hC18) (by omega) (fun k hk => by (try simp only [] at *); omega) (by simp)) Try.call15 rfl rfl) ?_
  rintro _ w19 ⟨v19, rfl, hM19, hx19⟩
  have hx19' := hx19.size
  refine X.opw X.wN rfl (X.move rfl) ?_
  refine X.opw X.wN rfl (X.extr rfl rfl) ?_
  refine X.opw X.wN rfl (X.extr rfl rfl) ?_
  refine X.opw X.wN rfl (X.assign rfl) ?_
  refine X.opw X.wN rfl (X.assign (v := .bool _) rfl) ?_
  refine X.opsEnd ?_
  refine X.seq ?_
  refine X.region ?_
  refine X.opE X.wN rfl (X.callE (CSum_c (B := w19.heap.size) (B0 := w19.heap.size) (a := w19.heap.size) (n := 0) (w0 := w19) (Tj := fun _ _ => False) (L := fun _ => []) (cs := []) (lo := 0) (hi := 0) _ (Sl.nil KR1 0 0 _ none) (by omega) (Nat.le_refl _) (Nat.le_refl _) (fun j hj => by omega) (fun i j hi => by omega) (fun j y hy => by simp at hy) (Nat.le_refl _) (Ext.refl _ _) (fun j hj => by omega)) Try.call44 rfl rfl) ?_
  rintro _ w20 ⟨⟨p20, rfl⟩, hC20, hk20⟩
  have hk20' := hk20.size
  refine X.opE X.wN rfl (X.callE (restc_c _ (CVC.cur hC20) (by omega) (fun k hk => by (try simp only [] at *); omega) (Nat.lt_of_le_of_lt (sumC_len _ _ (Nat.le_refl _)) (by simp [mgCC, totLC, mgFC]))) Try.call39 rfl rfl) ?_
  rintro _ w21 ⟨v21, rfl, hM21, hx21⟩
  have hx21' := hx21.size
  refine X.opw X.wN rfl (X.move rfl) ?_
  refine X.opw X.wN rfl (X.extr rfl rfl) ?_
  refine X.opw X.wN rfl (X.extr rfl rfl) ?_
  refine X.opw X.wN rfl (X.assign rfl) ?_
  refine X.opw X.wN rfl (X.assign (v := .bool _) rfl) ?_
  refine X.opsEnd ?_
  refine X.seq ?_
  refine X.region ?_
  refine X.opw X.wN rfl (X.move (v := .bool true) rfl) ?_
  refine X.opw X.wN rfl (X.move (v := .bool true) rfl) ?_
  refine X.opw (X.wG rfl rfl rfl) rfl (X.move (v := .bool true) rfl) ?_
  refine X.opw X.wN rfl (X.pickT (v := .bool true) rfl rfl) ?_
  refine X.opw X.wN rfl (X.move (v := .bool true) rfl) ?_
  refine X.opw (X.wG rfl rfl rfl) rfl (X.move (v := .bool true) rfl) ?_
  refine X.opw X.wN rfl (X.pickT (v := .bool true) rfl rfl) ?_
  refine X.opw X.wN rfl (X.move (v := .bool true) rfl) ?_
  refine X.opw (X.wG rfl rfl rfl) rfl (X.move (v := .bool true) rfl) ?_
  refine X.opw X.wN rfl (X.pickT (v := .bool true) rfl rfl) ?_
  refine X.opw X.wN rfl (X.move (v := .bool true) rfl) ?_
  refine X.opw (X.wG rfl rfl rfl) rfl (X.move (v := .bool true) rfl) ?_
  refine X.opw X.wN rfl (X.pickT (v := .bool true) rfl rfl) ?_
  refine X.opw X.wN rfl (X.move (v := .bool true) rfl) ?_
  refine X.opw (X.wG rfl rfl rfl) rfl (X.move (v := .bool true) rfl) ?_
  refine X.opw X.wN rfl (X.pickT (v := .bool true) rfl rfl) ?_
  refine X.opw X.wN rfl (X.move (v := .bool true) rfl) ?_
  refine X.opw (X.wG rfl rfl rfl) rfl (X.move (v := .bool true) rfl) ?_
  refine X.opw X.wN rfl (X.pickT (v := .bool true) rfl rfl) ?_
  refine X.opw X.wN rfl (X.move (v := .bool true) rfl) ?_
  refine X.opw (X.wG rfl rfl rfl) rfl (X.move rfl) ?_
  refine X.opw (X.wG rfl rfl rfl) rfl (X.move (v := .slice _ _ _) rfl) ?_
  have q23 := ((((((((((((hM5.keep (hk6.trans hk7)).ext hx8 (by intros; (try simp only []); omega) (by intros; (try simp only []); omega)).keep (hk9.trans hk10)).ext hx11 (by intros; (try simp only []); omega) (by intros; (try simp only []); omega)).keep (hk12.trans hk13)).ext hx14 (by intros; (try simp only []); omega) (by intros; (try simp only []); omega)).keep (hk15.trans hk16)).ext hx17 (by intros; (try simp only []); omega) (by intros; (try simp only []); omega)).keep hk18).ext hx19 (by intros; (try simp only []); omega) (by intros; (try simp only []); omega)).keep hk20).ext hx21 (by intros; (try simp only []); omega) (by intros; (try simp only []); omega)).slF KTh_flat 0 (fun _ _ => Nat.zero_le _)
  obtain ⟨A23, c23, rfl, hc23, hs23⟩ := q23
  refine X.opE (X.wG rfl rfl rfl) rfl (X.callE (Same_c _ hs23 ((((((((((((((hsq.keep ((hk2.trans hk3).trans hk4)).ext hx5 (by intros; (try simp only []); omega)).keep (hk6.trans hk7)).ext hx8 (by intros; (try simp only []); omega)).keep (hk9.trans hk10)).ext hx11 (by intros; (try simp only []); omega)).keep (hk12.trans hk13)).ext hx14 (by intros; (try simp only []); omega)).keep (hk15.trans hk16)).ext hx17 (by intros; (try simp only []); omega)).keep hk18).ext hx19 (by intros; (try simp only []); omega)).keep hk20).ext hx21 (by intros; (try simp only []); omega))) Try.call22 rfl rfl) ?_
  rintro _ w22 ⟨rfl, hk22⟩
  have hk22' := hk22.size
  refine X.opw X.wN rfl (X.pickT (v := .bool _) rfl rfl) ?_
  refine X.opw X.wN rfl (X.move (v := .bool _) rfl) ?_
  refine X.forkO 95 rfl (fun h95 => ?_) (fun h95 => ?_)
  · refine X.opw (X.wG rfl rfl rfl) rfl (X.move rfl) ?_
    refine X.opw (X.wG rfl rfl rfl) rfl (X.move (v := .slice _ _ _) rfl) ?_
    have q25 := (((((((hM14.keep (hk15.trans hk16)).ext hx17 (by intros; (try simp only []); omega) (by intros; (try simp only []); omega)).keep hk18).ext hx19 (by intros; (try simp only []); omega) (by intros; (try simp only []); omega)).keep hk20).ext hx21 (by intros; (try simp only []); omega) (by intros; (try simp only []); omega)).keep hk22).slF KTh_flat 0 (fun _ _ => Nat.zero_le _)
    obtain ⟨A25, c25, rfl, hc25, hs25⟩ := q25
    refine X.opE (X.wG rfl rfl rfl) rfl (X.callE (Same_c _ hs25 (((((((((((((((hsq.keep ((hk2.trans hk3).trans hk4)).ext hx5 (by intros; (try simp only []); omega)).keep (hk6.trans hk7)).ext hx8 (by intros; (try simp only []); omega)).keep (hk9.trans hk10)).ext hx11 (by intros; (try simp only []); omega)).keep (hk12.trans hk13)).ext hx14 (by intros; (try simp only []); omega)).keep (hk15.trans hk16)).ext hx17 (by intros; (try simp only []); omega)).keep hk18).ext hx19 (by intros; (try simp only []); omega)).keep hk20).ext hx21 (by intros; (try simp only []); omega)).keep hk22)) Try.call22 rfl rfl) ?_
    rintro _ w24 ⟨rfl, hk24⟩
    have hk24' := hk24.size
    refine X.opw X.wN rfl (X.pickT (v := .bool _) rfl rfl) ?_
    refine X.opw X.wN rfl (X.move (v := .bool _) rfl) ?_
    refine X.forkO 100 rfl (fun h100 => ?_) (fun h100 => ?_)
    · refine X.opw (X.wG rfl rfl rfl) rfl (X.move rfl) ?_
      have q26 := (((((((((((hM8.keep (hk9.trans hk10)).ext hx11 (by intros; (try simp only []); omega) (by intros; (try simp only []); omega)).keep (hk12.trans hk13)).ext hx14 (by intros; (try simp only []); omega) (by intros; (try simp only []); omega)).keep (hk15.trans hk16)).ext hx17 (by intros; (try simp only []); omega) (by intros; (try simp only []); omega)).keep hk18).ext hx19 (by intros; (try simp only []); omega) (by intros; (try simp only []); omega)).keep hk20).ext hx21 (by intros; (try simp only []); omega) (by intros; (try simp only []); omega)).keep (hk22.trans hk24)).slF KTh_flat 0 (fun _ _ => Nat.zero_le _)
      obtain ⟨A26, c26, rfl, hc26, hs26⟩ := q26
      refine X.opw (X.wG rfl rfl rfl) rfl (X.lenSl Try.underlying24 rfl) ?_
      refine X.opw (X.wG rfl rfl rfl) rfl (X.move rfl) ?_
      have q27 := (((((((((hM11.keep (hk12.trans hk13)).ext hx14 (by intros; (try simp only []); omega) (by intros; (try simp only []); omega)).keep (hk15.trans hk16)).ext hx17 (by intros; (try simp only []); omega) (by intros; (try simp only []); omega)).keep hk18).ext hx19 (by intros; (try simp only []); omega) (by intros; (try simp only []); omega)).keep hk20).ext hx21 (by intros; (try simp only []); omega) (by intros; (try simp only []); omega)).keep (hk22.trans hk24)).slF KTh_flat 0 (fun _ _ => Nat.zero_le _)
      obtain ⟨A27, c27, rfl, hc27, hs27⟩ := q27
      refine X.opw (X.wG rfl rfl rfl) rfl (X.lenSl Try.underlying24 rfl) ?_
      refine X.opw (X.wG rfl rfl rfl) rfl (X.add (c := 0) rfl rfl rfl) ?_
      refine X.opw (X.wG rfl rfl rfl) rfl (X.move rfl) ?_
      have q28 := (((((hM17.keep hk18).ext hx19 (by intros; (try simp only []); omega) (by intros; (try simp only []); omega)).keep hk20).ext hx21 (by intros; (try simp only []); omega) (by intros; (try simp only []); omega)).keep (hk22.trans hk24)).slF KTh_flat 0 (fun _ _ => Nat.zero_le _)
      obtain ⟨A28, c28, rfl, hc28, hs28⟩ := q28
      refine X.opw (X.wG rfl rfl rfl) rfl (X.lenSl Try.underlying24 rfl) ?_
      refine X.opw (X.wG rfl rfl rfl) rfl (X.add (c := 0) rfl rfl rfl) ?_
      refine X.opw (X.wG rfl rfl rfl) rfl (X.move rfl) ?_
      have q29 := (((hM19.keep hk20).ext hx21 (by intros; (try simp only []); omega) (by intros; (try simp only []); omega)).keep (hk22.trans hk24)).slF KTh_flat 0 (fun _ _ => Nat.zero_le _)
      obtain ⟨A29, c29, rfl, hc29, hs29⟩ := q29
      refine X.opw (X.wG rfl rfl rfl) rfl (X.lenSl Try.underlying24 rfl) ?_
      refine X.opw (X.wG rfl rfl rfl) rfl (X.add (c := 0) rfl rfl rfl) ?_
      refine X.opw (X.wG rfl rfl rfl) rfl (X.move rfl) ?_
      have q30 := (hM21.keep (hk22.trans hk24)).slF KCt_flat 0 (fun _ _ => Nat.zero_le _)
      obtain ⟨A30, c30, rfl, hc30, hs30⟩ := q30
      refine X.opw (X.wG rfl rfl rfl) rfl (X.lenSl Try.underlying64 rfl) ?_
      refine X.opw (X.wG rfl rfl rfl) rfl (X.add (c := 0) rfl rfl rfl) ?_
      refine X.opw (X.wG rfl rfl rfl) rfl (X.move rfl) ?_
      refine X.opE (X.wG rfl rfl rfl) rfl (X.callE (RestN_c _) Try.call21 rfl rfl) ?_
      rintro _ w31 ⟨rfl, hk31⟩
      have hk31' := hk31.size
      refine X.opw (X.wG rfl rfl rfl) rfl (X.lenSl Try.underlying24 rfl) ?_
      refine X.opw (X.wG rfl rfl rfl) rfl (X.add (c := 0) rfl rfl rfl) ?_
      refine X.opP (X.wG rfl rfl rfl) rfl rfl (X.eqI rfl rfl) (fun h119 => ?_) (fun h119 => ?_)
      · refine X.opw X.wN rfl (X.pickT (v := .bool true) rfl rfl) ?_
        refine X.opw X.wN rfl (X.move (v := .bool true) rfl) ?_
        refine X.opE (X.wG rfl rfl rfl) rfl (X.callE (alive_c _) Try.call14 rfl rfl) ?_
        rintro _ w32 ⟨rfl, hk32⟩
        have hk32' := hk32.size
        refine X.opw X.wN rfl (X.pickT (v := .bool _) rfl rfl) ?_
        refine X.opw X.wN rfl (X.assign (v := .bool _) rfl) ?_
        refine X.opsEnd ?_
        refine X.ret1 (v := (.bool _)) Try.func11 Try.results11 rfl ?_
        exact ⟨rfl, ((((((((((((((((((((((((hk1.trans hk2).trans hk3).trans hk4).step hx5 (by intros; (try simp only [] at *); omega)).trans hk6).trans hk7).step hx8 (by intros; (try simp only [] at *); omega)).trans hk9).trans hk10).step hx11 (by intros; (try simp only [] at *); omega)).trans hk12).trans hk13).step hx14 (by intros; (try simp only [] at *); omega)).trans hk15).trans hk16).step hx17 (by intros; (try simp only [] at *); omega)).trans hk18).step hx19 (by intros; (try simp only [] at *); omega)).trans hk20).step hx21 (by intros; (try simp only [] at *); omega)).trans hk22).trans hk24).trans hk31).trans hk32)⟩
      · exact absurd rfl h119
    · simp [hLH] at h100
  · simp at h95
end Go.Proofs.Ytgfficbkajcdpaa
