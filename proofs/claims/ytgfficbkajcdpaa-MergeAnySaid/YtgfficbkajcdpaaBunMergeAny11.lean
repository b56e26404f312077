/- Texts that the proof of MergeAny stands on, part 11. -/
import Derived.Test.YtgfficbkajcdpaaProg
import Derived.Test.YtgfficbkajcdpaaBunMergeAny10

namespace Go.Proofs.Ytgfficbkajcdpaa
open Go Go.Proofs.Ytgfficbkajcdpaa.X
set_option linter.unusedVariables false
set_option linter.unusedSimpArgs false
theorem updLC_mem {L : Nat → List CT} {i j : Nat} {x : CT} (h : x ∈ updLC L i j) : x ∈ L j := by
  unfold updLC at h
  split at h
  · exact List.mem_of_mem_tail h
  · exact h
theorem pkC_ok {ok : CT → Prop} {lt : CT → CT → Bool} {L : Nat → List CT} {n m : Nat} (hok : ∀ j, j < n → ∀ x, x ∈ L j → ok x) (hm : m ≤ n) (h : pkC lt L m ≠ none) : ok (bestXC (pkC lt L m)) := by
  cases hp : pkC lt L m with
  | none => exact absurd hp h
  | some q =>
    obtain ⟨i, x⟩ := q
    obtain ⟨h1, l, h2⟩ := pkC_some hp
    exact hok i (by omega) x (by rw [h2]; exact List.mem_cons_self)
section
variable {B n m : Nat} {hb : Nat → Nat} {Tj : Nat → Nat → Prop} {L : Nat → List CT} {w wl wa wb : World}
theorem cheads_next {j : Nat} {x : CT} (HS : HSet B n hb Tj m) (hBm : B ≤ m) (hm : m ≤ wl.heap.size) (h1 : ∀ i, i < j → ∃ x, HdTC B (Tj i) (hb i) (L i) x wl) (h2 : ∀ i, j ≤ i → i < n → HdC B (Tj i) (hb i) (L i) wl) (hj : j < n)
    (hH : HdTC B (Tj j) (hb j) (L j) x wa) (x1 : Ext (fun k => Tj j k ∨ k = hb j) wl wa) (x2 : Ext (fun k => m ≤ k) wa wb) : (∀ i, i < j + 1 → ∃ x, HdTC B (Tj i) (hb i) (L i) x wb) ∧ (∀ i, j + 1 ≤ i → i < n → HdC B (Tj i) (hb i) (L i) wb) := by
  have hU : ∀ i, i < n → ∀ k, m ≤ k → B ≤ k ∧ ¬ Tj i k ∧ k ≠ hb i := fun i hi k hk => ⟨by omega, fun h => by have := HS.bT i hi k h; omega, fun h => by have := HS.bH i hi; omega⟩
  have hV : ∀ i, i < n → i ≠ j → ∀ k, (Tj j k ∨ k = hb j) → B ≤ k ∧ ¬ Tj i k ∧ k ≠ hb i := fun i hi hne k hk => by
    have := HS.dis j i hj hi (fun e => hne e.symm) k hk
    exact ⟨(HS.hU k ⟨j, hj, hk⟩).1, fun h => this (.inl h), fun h => this (.inr h)⟩
  refine ⟨fun i hi => ?_, fun i hi hn => ?_⟩
  · by_cases e : i = j
    · subst e; exact ⟨x, hH.ext x2 fun k _ hk => hU i hj k hk⟩
    · obtain ⟨y, hy⟩ := h1 i (by omega)
      exact ⟨y, (hy.ext x1 fun k _ hk => hV i (by omega) e k hk).ext x2 fun k _ hk => hU i (by omega) k hk⟩
  · exact ((h2 i (by omega) hn).ext x1 fun k _ hk => hV i hn (by omega) k hk).ext x2 fun k _ hk => hU i hn k hk
theorem cheads_pass {i : Nat} {x : CT} {l : List CT} (HS : HSet B n hb Tj m) (hBm : B ≤ m) (h1 : ∀ i, i < n → ∃ x, HdTC B (Tj i) (hb i) (L i) x wl) (hi : i < n) (hl : L i = x :: l)
    (hH : HdC B (Tj i) (hb i) l wa) (x1 : Ext (fun k => k = hb i) wl wa) (x2 : Ext (fun k => m ≤ k) wa wb) : ∀ j, j < n → HdC B (Tj j) (hb j) (updLC L i j) wb := by
  have hU : ∀ i, i < n → ∀ k, m ≤ k → B ≤ k ∧ ¬ Tj i k ∧ k ≠ hb i := fun i hi k hk => ⟨by omega, fun h => by have := HS.bT i hi k h; omega, fun h => by have := HS.bH i hi; omega⟩
  intro j hj
  refine HdC.ext ?_ x2 fun k _ hk => hU j hj k hk
  by_cases e : j = i
  · subst e; rw [updLC, if_pos rfl, hl]; exact hH
  · rw [updLC, if_neg e]
    refine HdC.ext (show HdC B (Tj j) (hb j) (L j) wl from .inr (h1 j hj)) x1 fun k _ hk => ?_
    have := HS.dis i j hi hj (fun h => e h.symm) k (.inr hk)
    exact ⟨by rw [show k = hb i from hk]; exact (HS.bH i hi).1, fun h => this (.inl h), fun h => this (.inr h)⟩
end
-- f72 "pedigree/merge.Merge[pedigree/api.Counted]$1" params [] results [70, 4] -> [(ResultVar.cell 2 70), (Re
set_option maxHeartbeats 4000000 in
set_option maxRecDepth 100000 in
theorem CMerge1_c (ok : CT → Prop) (lt : CT → CT → Bool) (CW : World → Prop) (B n : Nat) (hb : Nat → Nat) (Tj : Nat → Nat → Prop) (L : Nat → List CT) (c0 c1 : Nat) (cv : Value) {lo hi : Nat} {A : Option Addr} {c : Nat} {vs : List Value} (w : World) (HS : HSet B n hb Tj w.heap.size) (hBw : B ≤ w.heap.size) (hn : n ≤ 1000000) (hCW : CW w) (hCWs : ∀ w w', CW w → Ext (fun k => B ≤ k) w w' → CW w')
    (hsl : Sl KR1 lo hi w A n vs) (hhi : hi ≤ w.heap.size) (hvs : ∀ j, j < n → vs[j]? = some (.pointer (some ⟨hb j, 0, none⟩))) (hc0 : Blk w c0 [.slice A n c] 115) (hc1 : Blk w c1 [cv] 105) (hsep : ∀ k, UU n hb Tj k → ¬ (lo ≤ k ∧ k < hi) ∧ k ≠ c0 ∧ k ≠ c1) (hd : ∀ j, j < n → HdC B (Tj j) (hb j) (L j) w)
    (hok : ∀ j, j < n → ∀ x, x ∈ L j → ok x) (hcmp : ∀ (x y : CT) (wa : World), ok x → ok y → CW wa → YC Try.prog cv [evC x, evC y] wa fun r wb => ∃ nc, r = .int .i64 nc ∧ (nc < 0 ↔ lt x y = true) ∧ Keep wa wb) :
    Ret Try.prog 72 #[.pointer (some ⟨c0, 0, none⟩), .pointer (some ⟨c1, 0, none⟩)] w fun r w' => r = hdV evC zC (mgCC lt n L) ∧ Ext (UU n hb Tj) w w' ∧ (mgCC lt n L ≠ [] → ∃ L', (mgCC lt n L).tail = mgCC lt n L' ∧ (∀ j, j < n → HdC B (Tj j) (hb j) (L' j) w') ∧ ∀ j x, x ∈ L' j → x ∈ L j) := by
  have hc0l := hc0.lt
  have hc1l := hc1.lt
  have hvl := hsl.len
  refine X.enter Try.func72 rfl Try.ntmps72 rfl ?_
  refine X.seq ?_
  refine X.region ?_
  refine X.opE X.wN rfl (X.allocE Try.zeroValue70 rfl) ?_
  rintro _ w1 ⟨rfl, hB1, hk1, hz1⟩
  refine X.opw X.wN rfl (X.assign rfl) ?_
  refine X.opsEnd ?_
  refine X.seq ?_
  refine X.region ?_
  refine X.opw X.wN rfl (X.assign rfl) ?_
  refine X.opsEnd ?_
  refine X.seq ?_
  refine X.seq ?_
  refine X.region ?_
  refine X.opw X.wN rfl (X.load1B Try.isAgg115 (hc0.keep hk1) rfl rfl) ?_
  refine X.opw X.wN rfl (X.lenSl Try.underlying115 rfl) ?_
  refine X.opw X.wN rfl (X.move rfl) ?_
  refine X.opsEnd ?_
  refine X.block ?_
  -- LOOP live: 1, 2=x, 3=ok*, 4=best*, 9, 10, 11*
  refine X.loopL (σ := Nat) (fun s => [(1, .pointer (some ⟨c1, 0, none⟩)), (2, .pointer (some ⟨w.heap.size, 0, none⟩)), (3, .bool (pkC lt L s).isSome), (4, .pointer (bestPC hb (pkC lt L s))), (9, .slice A n c), (10, .int .i64 (n : Int)), (11, .int .i64 (s : Int))]) (fun s w' => s ≤ n ∧ (∀ i, i < s → ∃ x, HdTC B (Tj i) (hb i) (L i) x w') ∧ (∀ i, s ≤ i → i < n → HdC B (Tj i) (hb i) (L i) w') ∧ Blk w' w.heap.size [.slice (bestXC (pkC lt L s)).1.1 (bestXC (pkC lt L s)).1.2.1 (bestXC (pkC lt L s)).1.2.2, .int .i64 (bestXC (pkC lt L s)).2] 70 ∧ Sl KR1 lo hi w' A n vs ∧ Blk w' c0 [.slice A n c] 115 ∧ Blk w' c1 [cv] 105 ∧ Ext (UU n hb Tj) w w' ∧ w.heap.size < w'.heap.size ∧ CW w') (fun s => n - s) 0 ⟨rfl, rfl, rfl, rfl, rfl, rfl, rfl, trivial⟩ ⟨by omega, fun i h => by omega, fun i _ h => (hd i h).ext hk1 (fun _ _ h => h.elim), hB1, (hsl.keep hk1), (hc0.keep hk1), (hc1.keep hk1), hk1.mono (fun _ _ h => h.elim), by omega, hCWs _ _ hCW (hk1.mono fun _ _ h => h.elim)⟩ ?_
  rintro j b0 wl ⟨hj0, hd1, hd2, hB2, hS, hB0, hB1, hE, hwl, hCWl⟩ hback
  refine X.seq ?_
  refine X.region ?_
  refine X.opP X.wN rfl rfl (X.lss rfl rfl) (fun h12 => ?_) (fun h12 => ?_)
  · have hj : j < n := by omega
    have hvj := hvs j hj
    refine X.opsEnd ?_
    refine X.seq ?_
    refine X.condT rfl ?_
    refine X.skip ?_
    refine X.seq ?_
    refine X.block ?_
    refine X.seq ?_
    refine X.region ?_
    refine X.opw X.wN rfl (X.idxS hS Try.underlying115 Try.sizeOf103 rfl rfl ⟨by omega, by omega⟩) ?_
    refine X.opw X.wN rfl (X.loadS Try.isAgg103 hS hvj rfl (fun _ h => by rw [h.1]; rfl)) ?_
    refine X.opw X.wN rfl (X.assign rfl) ?_
    refine X.opsEnd ?_
    refine X.seq ?_
    refine X.region ?_
    refine X.opw X.wN rfl (X.move rfl) ?_
    refine X.opE X.wN rfl (X.callE (clook_c _ (hd2 j (Nat.le_refl _) hj) (by omega) (HS.bH j hj).1 (HS.tH j hj) (fun k hk => by have := HS.bT j hj k hk; omega)) Try.call64 rfl rfl) ?_
    rintro _ w2 ⟨x2, rfl, hH2, hx2⟩
    have hx2' := hx2.size
    refine X.opw X.wN rfl (X.move rfl) ?_
    refine X.opw X.wN rfl (X.extr rfl rfl) ?_
    refine X.opw X.wN rfl (X.extr rfl rfl) ?_
    refine X.opE X.wN rfl (X.allocE Try.zeroValue70 rfl) ?_
    rintro _ w3 ⟨rfl, hB3, hk3, hz3⟩
    refine X.opE X.wN rfl (X.storeNE Try.sizeOf70 hB3 rfl rfl rfl rfl (fun u hu => by simp at hu; rcases hu with rfl | rfl <;> rfl)) ?_
    rintro _ w4 ⟨hB4, hx4, hz4⟩
    refine X.opw X.wN rfl (X.assign (v := .bool _) rfl) ?_
    refine X.opsEnd ?_
    refine X.seq ?_
    refine X.region ?_
    refine X.opw X.wN rfl (X.move (v := .bool _) rfl) ?_
    refine X.opw X.wN rfl (X.move (v := .bool _) rfl) ?_
    refine X.forkO 21 rfl (fun h21 => ?_) (fun h21 => ?_)
    · obtain ⟨ys, hLj⟩ : ∃ ys, L j = x2 :: ys := by
        cases hq : L j with
        | nil => rw [hq] at h21; simp at h21
        | cons y ys => rw [hq] at hH2; exact ⟨ys, by rw [hH2.head]⟩
      refine X.opw (X.wG rfl rfl rfl) rfl (X.move rfl) ?_
      refine X.opB (X.wG rfl rfl rfl) rfl rfl (X.eqPtrN Try.underlying103 rfl rfl) (fun h23 => ?_) (fun h23 => ?_)
      · refine X.opw (X.wG rfl rfl rfl) rfl (X.move (v := .bool true) rfl) ?_
        refine X.opS rfl rfl rfl rfl rfl ?_
        refine X.opS rfl rfl rfl rfl rfl ?_
        refine X.opS rfl rfl rfl rfl rfl ?_
        refine X.opS rfl rfl rfl rfl rfl ?_
        refine X.opS rfl rfl rfl rfl rfl ?_
        refine X.opw (X.wG rfl rfl rfl) rfl (X.pickT (v := .bool true) rfl rfl) ?_
        refine X.opw X.wN rfl (X.pickT (v := .bool true) rfl rfl) ?_
        refine X.opsEnd ?_
        refine X.condT rfl ?_
        refine X.regionD (fun k => k = w.heap.size) 3 (by kernel_rfl) (by kernel_rfl) (fun w5 hk5 hz5 => ?_)
        refine X.dTake 0 rfl (by kernel_rfl) (by kernel_rfl) (by kernel_rfl) (X.dwN rfl) (fun w' hk' => X.move rfl) ?_
        refine X.dTake 1 rfl (by kernel_rfl) (by kernel_rfl) (by kernel_rfl) (X.dwN rfl) (fun w' hk' => X.loadNB Try.isAgg70 Try.sizeOf70 ((hB4.keep hk5).ext hk' (by intros; (try simp only []); omega)) rfl rfl rfl) ?_
        refine X.dTake 2 rfl (by kernel_rfl) (by kernel_rfl) (by kernel_rfl) (X.dwN rfl) (fun w' hk' => X.assign rfl) ?_
        refine X.dE (i := 3) (by kernel_rfl) rfl (X.dwN rfl) (X.storeNE Try.sizeOf70 ((hB2.ext hx2 (fun h => by have := HS.hU _ (⟨j, hj, h⟩); omega)).keep ((hk3.step hx4 (by intros; (try simp only [] at *); omega)).trans hk5)) rfl rfl rfl rfl (fun u hu => by simp at hu; rcases hu with rfl | rfl <;> rfl)) (fun _ _ _ h => absurd h (by decide)) ?_
        rintro _ w6 ⟨hB6, hx6, hz6⟩
        refine X.dStep (i := 4) (by kernel_rfl) rfl (X.dwN rfl) (X.assign rfl) (fun h => absurd h (by decide)) ?_
        refine X.dEnd (by kernel_rfl) ?_
        refine X.inBlock ?_
        refine X.region ?_
        refine X.opw X.wN rfl (X.add rfl rfl (X.w_i64 (by omega))) ?_
        refine X.opw X.wN rfl (X.move (v := .int .i64 _) rfl) ?_
        refine X.opsEnd ?_
        have hpk := pkC_new hLj (.inl (by cases hq : pkC lt L j with
            | none => rfl
            | some q => rw [hq] at h23; simp [bestPC] at h23))
        refine hback (j + 1) _ _ ⟨(by first | rfl | (rw [hpk]; rfl)), (by first | rfl | (rw [hpk]; rfl)), (by first | rfl | (rw [hpk]; rfl)), (by first | rfl | (rw [hpk]; rfl)), (by first | rfl | (rw [hpk]; rfl)), (by first | rfl | (rw [hpk]; rfl)), (by first | rfl | (rw [hpk]; rfl)), trivial⟩ ⟨by omega, (cheads_next HS hBw (by omega) hd1 hd2 hj hH2 hx2 (Ext.andThen (Ext.andThen (Ext.andThen (Ext.andThen (Ext.refl (fun k => w.heap.size ≤ k) _) hk3 (by intro k h1 h2; first | exact (h2 : False).elim | omega | ((try simp only [] at *); omega))) hx4 (by intro k h1 h2; first | exact (h2 : False).elim | omega | ((try simp only [] at *); omega))) hk5 (by intro k h1 h2; first | exact (h2 : False).elim | omega | ((try simp only [] at *); omega))) hx6 (by intro k h1 h2; first | exact (h2 : False).elim | omega | ((try simp only [] at *); omega)))).1, (cheads_next HS hBw (by omega) hd1 hd2 hj hH2 hx2 (Ext.andThen (Ext.andThen (Ext.andThen (Ext.andThen (Ext.refl (fun k => w.heap.size ≤ k) _) hk3 (by intro k h1 h2; first | exact (h2 : False).elim | omega | ((try simp only [] at *); omega))) hx4 (by intro k h1 h2; first | exact (h2 : False).elim | omega | ((try simp only [] at *); omega))) hk5 (by intro k h1 h2; first | exact (h2 : False).elim | omega | ((try simp only [] at *); omega))) hx6 (by intro k h1 h2; first | exact (h2 : False).elim | omega | ((try simp only [] at *); omega)))).2, (by rw [hpk]; exact hB6), (((hS.ext hx2 (fun k h1 h2 h => (hsep k (⟨j, hj, h⟩)).1 ⟨h1, h2⟩)).keep ((hk3.step hx4 (by intros; (try simp only [] at *); omega)).trans hk5)).ext hx6 (by intros; (try simp only []); omega)), (((hB0.ext hx2 (fun h => (hsep _ (⟨j, hj, h⟩)).2.1 rfl)).keep ((hk3.step hx4 (by intros; (try simp only [] at *); omega)).trans hk5)).ext hx6 (by intros; (try simp only []); omega)), (((hB1.ext hx2 (fun h => (hsep _ (⟨j, hj, h⟩)).2.2 rfl)).keep ((hk3.step hx4 (by intros; (try simp only [] at *); omega)).trans hk5)).ext hx6 (by intros; (try simp only []); omega)), (Ext.andThen (Ext.andThen (Ext.andThen (Ext.andThen (Ext.andThen hE hx2 (by intro k h1 h2; first | exact (h2 : False).elim | exact ⟨j, hj, h2⟩ | exact ⟨i, hin, .inr h2⟩ | (exfalso; (try simp only [] at *); omega))) hk3 (by intro k h1 h2; first | exact (h2 : False).elim | exact ⟨j, hj, h2⟩ | exact ⟨i, hin, .inr h2⟩ | (exfalso; (try simp only [] at *); omega))) hx4 (by intro k h1 h2; first | exact (h2 : False).elim | exact ⟨j, hj, h2⟩ | exact ⟨i, hin, .inr h2⟩ | (exfalso; (try simp only [] at *); omega))) hk5 (by intro k h1 h2; first | exact (h2 : False).elim | exact ⟨j, hj, h2⟩ | exact ⟨i, hin, .inr h2⟩ | (exfalso; (try simp only [] at *); omega))) hx6 (by intro k h1 h2; first | exact (h2 : False).elim | exact ⟨j, hj, h2⟩ | exact ⟨i, hin, .inr h2⟩ | (exfalso; (try simp only [] at *); omega))), by omega, (hCWs _ _ hCWl (Ext.andThen (Ext.andThen (Ext.andThen (Ext.andThen (Ext.andThen (Ext.refl (fun k => B ≤ k) _) hx2 (by intro k h1 h2; first | exact (h2 : False).elim | exact (HS.hU k ⟨j, hj, h2⟩).1 | ((try simp only [] at *); omega))) hk3 (by intro k h1 h2; first | exact (h2 : False).elim | exact (HS.hU k ⟨j, hj, h2⟩).1 | ((try simp only [] at *); omega))) hx4 (by intro k h1 h2; first | exact (h2 : False).elim | exact (HS.hU k ⟨j, hj, h2⟩).1 | ((try simp only [] at *); omega))) hk5 (by intro k h1 h2; first | exact (h2 : False).elim | exact (HS.hU k ⟨j, hj, h2⟩).1 | ((try simp only [] at *); omega))) hx6 (by intro k h1 h2; first | exact (h2 : False).elim | exact (HS.hU k ⟨j, hj, h2⟩).1 | ((try simp only [] at *); omega))))⟩ (by omega)
      · refine X.opw (X.wG rfl rfl rfl) rfl (X.move (v := .bool false) rfl) ?_
        refine X.opw (X.wG rfl rfl rfl) rfl (X.load1B Try.isAgg105 ((hB1.ext hx2 (fun h => (hsep _ (⟨j, hj, h⟩)).2.2 rfl)).keep (hk3.step hx4 (by intros; (try simp only [] at *); omega))) rfl rfl) ?_
        refine X.opw (X.wG rfl rfl rfl) rfl (X.loadNB Try.isAgg70 Try.sizeOf70 hB4 rfl rfl rfl) ?_
        refine X.opw (X.wG rfl rfl rfl) rfl (X.loadNB Try.isAgg70 Try.sizeOf70 ((hB2.ext hx2 (fun h => by have := HS.hU _ (⟨j, hj, h⟩); omega)).keep (hk3.step hx4 (by intros; (try simp only [] at *); omega))) rfl rfl rfl) ?_
        refine X.opE (X.wG rfl rfl rfl) rfl ((hcmp x2 (bestXC (pkC lt L j)) _ (hok j hj _ (by rw [hLj]; exact List.mem_cons_self)) (pkC_ok hok (Nat.le_of_lt hj) (fun hq => by rw [hq] at h23; simp [bestPC] at h23)) (hCWs _ _ hCWl (Ext.andThen (Ext.andThen (Ext.andThen (Ext.refl (fun k => B ≤ k) _) hx2 (by intro k h1 h2; first | exact (h2 : False).elim | exact (HS.hU k ⟨j, hj, h2⟩).1 | ((try simp only [] at *); omega))) hk3 (by intro k h1 h2; first | exact (h2 : False).elim | exact (HS.hU k ⟨j, hj, h2⟩).1 | ((try simp only [] at *); omega))) hx4 (by intro k h1 h2; first | exact (h2 : False).elim | exact (HS.hU k ⟨j, hj, h2⟩).1 | ((try simp only [] at *); omega))))) _ _ _ _ _ _ _ _ _ rfl rfl) ?_
        rintro _ w7 ⟨nc7, rfl, hlt7, hk7⟩
        have hk7' := hk7.size
        refine X.opP (X.wG rfl rfl rfl) rfl rfl (X.lss rfl rfl) (fun h29 => ?_) (fun h29 => ?_)
        · 
          refine X.opw (X.wG rfl rfl rfl) rfl (X.pickF (v := .bool true) rfl rfl) ?_
          refine X.opw X.wN rfl (X.pickT (v := .bool true) rfl rfl) ?_
          refine X.opsEnd ?_
          refine X.condT rfl ?_
          refine X.regionD (fun k => k = w.heap.size) 3 (by kernel_rfl) (by kernel_rfl) (fun w8 hk8 hz8 => ?_)
          refine X.dTake 0 rfl (by kernel_rfl) (by kernel_rfl) (by kernel_rfl) (X.dwN rfl) (fun w' hk' => X.move rfl) ?_
          refine X.dTake 1 rfl (by kernel_rfl) (by kernel_rfl) (by kernel_rfl) (X.dwN rfl) (fun w' hk' => X.loadNB Try.isAgg70 Try.sizeOf70 ((hB4.keep (hk7.trans hk8)).ext hk' (by intros; (try simp only []); omega)) rfl rfl rfl) ?_
          refine X.dTake 2 rfl (by kernel_rfl) (by kernel_rfl) (by kernel_rfl) (X.dwN rfl) (fun w' hk' => X.assign rfl) ?_
          refine X.dE (i := 3) (by kernel_rfl) rfl (X.dwN rfl) (X.storeNE Try.sizeOf70 ((hB2.ext hx2 (fun h => by have := HS.hU _ (⟨j, hj, h⟩); omega)).keep (((hk3.step hx4 (by intros; (try simp only [] at *); omega)).trans hk7).trans hk8)) rfl rfl rfl rfl (fun u hu => by simp at hu; rcases hu with rfl | rfl <;> rfl)) (fun _ _ _ h => absurd h (by decide)) ?_
          rintro _ w9 ⟨hB9, hx9, hz9⟩
          refine X.dStep (i := 4) (by kernel_rfl) rfl (X.dwN rfl) (X.assign rfl) (fun h => absurd h (by decide)) ?_
          refine X.dEnd (by kernel_rfl) ?_
          refine X.inBlock ?_
          refine X.region ?_
          refine X.opw X.wN rfl (X.add rfl rfl (X.w_i64 (by omega))) ?_
          refine X.opw X.wN rfl (X.move (v := .int .i64 _) rfl) ?_
          refine X.opsEnd ?_
          have hpk := pkC_new hLj (.inr (hlt7.1 h29))
          refine hback (j + 1) _ _ ⟨(by first | rfl | (rw [hpk]; rfl)), (by first | rfl | (rw [hpk]; rfl)), (by first | rfl | (rw [hpk]; rfl)), (by first | rfl | (rw [hpk]; rfl)), (by first | rfl | (rw [hpk]; rfl)), (by first | rfl | (rw [hpk]; rfl)), (by first | rfl | (rw [hpk]; rfl)), trivial⟩ ⟨by omega, (cheads_next HS hBw (by omega) hd1 hd2 hj hH2 hx2 (Ext.andThen (Ext.andThen (Ext.andThen (Ext.andThen (Ext.andThen (Ext.refl (fun k => w.heap.size ≤ k) _) hk3 (by intro k h1 h2; first | exact (h2 : False).elim | omega | ((try simp only [] at *); omega))) hx4 (by intro k h1 h2; first | exact (h2 : False).elim | omega | ((try simp only [] at *); omega))) hk7 (by intro k h1 h2; first | exact (h2 : False).elim | omega | ((try simp only [] at *); omega))) hk8 (by intro k h1 h2; first | exact (h2 : False).elim | omega | ((try simp only [] at *); omega))) hx9 (by intro k h1 h2; first | exact (h2 : False).elim | omega | ((try simp only [] at *); omega)))).1, (cheads_next HS hBw (by omega) hd1 hd2 hj hH2 hx2 (Ext.andThen (Ext.andThen (Ext.andThen (Ext.andThen (Ext.andThen (Ext.refl (fun k => w.heap.size ≤ k) _) hk3 (by intro k h1 h2; first | exact (h2 : False).elim | omega | ((try simp only [] at *); omega))) hx4 (by intro k h1 h2; first | exact (h2 : False).elim | omega | ((try simp only [] at *); omega))) hk7 (by intro k h1 h2; first | exact (h2 : False).elim | omega | ((try simp only [] at *); omega))) hk8 (by intro k h1 h2; first | exact (h2 : False).elim | omega | ((try simp only [] at *); omega))) hx9 (by intro k h1 h2; first | exact (h2 : False).elim | omega | ((try simp only [] at *); omega)))).2, (by rw [hpk]; exact hB9), (((hS.ext hx2 (fun k h1 h2 h => (hsep k (⟨j, hj, h⟩)).1 ⟨h1, h2⟩)).keep (((hk3.step hx4 (by intros; (try simp only [] at *); omega)).trans hk7).trans hk8)).ext hx9 (by intros; (try simp only []); omega)), (((hB0.ext hx2 (fun h => (hsep _ (⟨j, hj, h⟩)).2.1 rfl)).keep (((hk3.step hx4 (by intros; (try simp only [] at *); omega)).trans hk7).trans hk8)).ext hx9 (by intros; (try simp only []); omega)), (((hB1.ext hx2 (fun h => (hsep _ (⟨j, hj, h⟩)).2.2 rfl)).keep (((hk3.step hx4 (by intros; (try simp only [] at *); omega)).trans hk7).trans hk8)).ext hx9 (by intros; (try simp only []); omega)), (Ext.andThen (Ext.andThen (Ext.andThen (Ext.andThen (Ext.andThen (Ext.andThen hE hx2 (by intro k h1 h2; first | exact (h2 : False).elim | exact ⟨j, hj, h2⟩ | exact ⟨i, hin, .inr h2⟩ | (exfalso; (try simp only [] at *); omega))) hk3 (by intro k h1 h2; first | exact (h2 : False).elim | exact ⟨j, hj, h2⟩ | exact ⟨i, hin, .inr h2⟩ | (exfalso; (try simp only [] at *); omega))) hx4 (by intro k h1 h2; first | exact (h2 : False).elim | exact ⟨j, hj, h2⟩ | exact ⟨i, hin, .inr h2⟩ | (exfalso; (try simp only [] at *); omega))) hk7 (by intro k h1 h2; first | exact (h2 : False).elim | exact ⟨j, hj, h2⟩ | exact ⟨i, hin, .inr h2⟩ | (exfalso; (try simp only [] at *); omega))) hk8 (by intro k h1 h2; first | exact (h2 : False).elim | exact ⟨j, hj, h2⟩ | exact ⟨i, hin, .inr h2⟩ | (exfalso; (try simp only [] at *); omega))) hx9 (by intro k h1 h2; first | exact (h2 : False).elim | exact ⟨j, hj, h2⟩ | exact ⟨i, hin, .inr h2⟩ | (exfalso; (try simp only [] at *); omega))), by omega, (hCWs _ _ hCWl (Ext.andThen (Ext.andThen (Ext.andThen (Ext.andThen (Ext.andThen (Ext.andThen (Ext.refl (fun k => B ≤ k) _) hx2 (by intro k h1 h2; first | exact (h2 : False).elim | exact (HS.hU k ⟨j, hj, h2⟩).1 | ((try simp only [] at *); omega))) hk3 (by intro k h1 h2; first | exact (h2 : False).elim | exact (HS.hU k ⟨j, hj, h2⟩).1 | ((try simp only [] at *); omega))) hx4 (by intro k h1 h2; first | exact (h2 : False).elim | exact (HS.hU k ⟨j, hj, h2⟩).1 | ((try simp only [] at *); omega))) hk7 (by intro k h1 h2; first | exact (h2 : False).elim | exact (HS.hU k ⟨j, hj, h2⟩).1 | ((try simp only [] at *); omega))) hk8 (by intro k h1 h2; first | exact (h2 : False).elim | exact (HS.hU k ⟨j, hj, h2⟩).1 | ((try simp only [] at *); omega))) hx9 (by intro k h1 h2; first | exact (h2 : False).elim | exact (HS.hU k ⟨j, hj, h2⟩).1 | ((try simp only [] at *); omega))))⟩ (by omega)
        · 
          refine X.opw (X.wG rfl rfl rfl) rfl (X.pickF (v := .bool false) rfl rfl) ?_
          refine X.opw X.wN rfl (X.pickT (v := .bool false) rfl rfl) ?_
          refine X.opsEnd ?_
          refine X.condF rfl ?_
          refine X.skip ?_
          refine X.inBlock ?_
          refine X.region ?_
          refine X.opw X.wN rfl (X.add rfl rfl (X.w_i64 (by omega))) ?_
          refine X.opw X.wN rfl (X.move (v := .int .i64 _) rfl) ?_
          refine X.opsEnd ?_
          have hpk := pkC_old hLj (fun hq => by rw [hq] at h23; simp [bestPC] at h23) (fun h => h29 (hlt7.2 h))
          refine hback (j + 1) _ _ ⟨(by first | rfl | (rw [hpk]; rfl)), (by first | rfl | (rw [hpk]; rfl)), (by first | rfl | (rw [hpk]; rfl)), (by first | rfl | (rw [hpk]; rfl)), (by first | rfl | (rw [hpk]; rfl)), (by first | rfl | (rw [hpk]; rfl)), (by first | rfl | (rw [hpk]; rfl)), trivial⟩ ⟨by omega, (cheads_next HS hBw (by omega) hd1 hd2 hj hH2 hx2 (Ext.andThen (Ext.andThen (Ext.andThen (Ext.refl (fun k => w.heap.size ≤ k) _) hk3 (by intro k h1 h2; first | exact (h2 : False).elim | omega | ((try simp only [] at *); omega))) hx4 (by intro k h1 h2; first | exact (h2 : False).elim | omega | ((try simp only [] at *); omega))) hk7 (by intro k h1 h2; first | exact (h2 : False).elim | omega | ((try simp only [] at *); omega)))).1, (cheads_next HS hBw (by omega) hd1 hd2 hj hH2 hx2 (Ext.andThen (Ext.andThen (Ext.andThen (Ext.refl (fun k => w.heap.size ≤ k) _) hk3 (by intro k h1 h2; first | exact (h2 : False).elim | omega | ((try simp only [] at *); omega))) hx4 (by intro k h1 h2; first | exact (h2 : False).elim | omega | ((try simp only [] at *); omega))) hk7 (by intro k h1 h2; first | exact (h2 : False).elim | omega | ((try simp only [] at *); omega)))).2, (by rw [hpk]; exact ((hB2.ext hx2 (fun h => by have := HS.hU _ (⟨j, hj, h⟩); omega)).keep ((hk3.step hx4 (by intros; (try simp only [] at *); omega)).trans hk7))), ((hS.ext hx2 (fun k h1 h2 h => (hsep k (⟨j, hj, h⟩)).1 ⟨h1, h2⟩)).keep ((hk3.step hx4 (by intros; (try simp only [] at *); omega)).trans hk7)), ((hB0.ext hx2 (fun h => (hsep _ (⟨j, hj, h⟩)).2.1 rfl)).keep ((hk3.step hx4 (by intros; (try simp only [] at *); omega)).trans hk7)), ((hB1.ext hx2 (fun h => (hsep _ (⟨j, hj, h⟩)).2.2 rfl)).keep ((hk3.step hx4 (by intros; (try simp only [] at *); omega)).trans hk7)), (Ext.andThen (Ext.andThen (Ext.andThen (Ext.andThen hE hx2 (by intro k h1 h2; first | exact (h2 : False).elim | exact ⟨j, hj, h2⟩ | exact ⟨i, hin, .inr h2⟩ | (exfalso; (try simp only [] at *); omega))) hk3 (by intro k h1 h2; first | exact (h2 : False).elim | exact ⟨j, hj, h2⟩ | exact ⟨i, hin, .inr h2⟩ | (exfalso; (try simp only [] at *); omega))) hx4 (by intro k h1 h2; first | exact (h2 : False).elim | exact ⟨j, hj, h2⟩ | exact ⟨i, hin, .inr h2⟩ | (exfalso; (try simp only [] at *); omega))) hk7 (by intro k h1 h2; first | exact (h2 : False).elim | exact ⟨j, hj, h2⟩ | exact ⟨i, hin, .inr h2⟩ | (exfalso; (try simp only [] at *); omega))), by omega, (hCWs _ _ hCWl (Ext.andThen (Ext.andThen (Ext.andThen (Ext.andThen (Ext.refl (fun k => B ≤ k) _) hx2 (by intro k h1 h2; first | exact (h2 : False).elim | exact (HS.hU k ⟨j, hj, h2⟩).1 | ((try simp only [] at *); omega))) hk3 (by intro k h1 h2; first | exact (h2 : False).elim | exact (HS.hU k ⟨j, hj, h2⟩).1 | ((try simp only [] at *); omega))) hx4 (by intro k h1 h2; first | exact (h2 : False).elim | exact (HS.hU k ⟨j, hj, h2⟩).1 | ((try simp only [] at *); omega))) hk7 (by intro k h1 h2; first | exact (h2 : False).elim | exact (HS.hU k ⟨j, hj, h2⟩).1 | ((try simp only [] at *); omega))))⟩ (by omega)
    · have hLj : L j = [] := by
        cases hq : L j with
        | nil => rfl
        | cons y ys => rw [hq] at h21; simp at h21
      refine X.opS rfl rfl rfl rfl rfl ?_
      refine X.opS rfl rfl rfl rfl rfl ?_
      refine X.opS rfl rfl rfl rfl rfl ?_
      refine X.opU rfl rfl rfl rfl ?_
      refine X.opU rfl rfl rfl rfl ?_
      refine X.opU rfl rfl rfl rfl ?_
      refine X.opU rfl rfl rfl rfl ?_
      refine X.opU rfl rfl rfl rfl ?_
      refine X.opS rfl rfl rfl rfl rfl ?_
      refine X.opw X.wN rfl (X.pickF (v := .bool false) rfl rfl) ?_
      refine X.opsEnd ?_
      refine X.condF rfl ?_
      refine X.skip ?_
      refine X.inBlock ?_
      refine X.region ?_
      refine X.opw X.wN rfl (X.add rfl rfl (X.w_i64 (by omega))) ?_
      refine X.opw X.wN rfl (X.move (v := .int .i64 _) rfl) ?_
      refine X.opsEnd ?_
      have hpk := pkC_nil (lt := lt) hLj
      refine hback (j + 1) _ _ ⟨(by first | rfl | (rw [hpk]; rfl)), (by first | rfl | (rw [hpk]; rfl)), (by first | rfl | (rw [hpk]; rfl)), (by first | rfl | (rw [hpk]; rfl)), (by first | rfl | (rw [hpk]; rfl)), (by first | rfl | (rw [hpk]; rfl)), (by first | rfl | (rw [hpk]; rfl)), trivial⟩ ⟨by omega, (cheads_next HS hBw (by omega) hd1 hd2 hj hH2 hx2 (Ext.andThen (Ext.andThen (Ext.refl (fun k => w.heap.size ≤ k) _) hk3 (by intro k h1 h2; first | exact (h2 : False).elim | omega | ((try simp only [] at *); omega))) hx4 (by intro k h1 h2; first | exact (h2 : False).elim | omega | ((try simp only [] at *); omega)))).1, (cheads_next HS hBw (by omega) hd1 hd2 hj hH2 hx2 (Ext.andThen (Ext.andThen (Ext.refl (fun k => w.heap.size ≤ k) _) hk3 (by intro k h1 h2; first | exact (h2 : False).elim | omega | ((try simp only [] at *); omega))) hx4 (by intro k h1 h2; first | exact (h2 : False).elim | omega | ((try simp only [] at *); omega)))).2, (by rw [hpk]; exact ((hB2.ext hx2 (fun h => by have := HS.hU _ (⟨j, hj, h⟩); omega)).keep (hk3.step hx4 (by intros; (try simp only [] at *); omega)))), ((hS.ext hx2 (fun k h1 h2 h => (hsep k (⟨j, hj, h⟩)).1 ⟨h1, h2⟩)).keep (hk3.step hx4 (by intros; (try simp only [] at *); omega))), ((hB0.ext hx2 (fun h => (hsep _ (⟨j, hj, h⟩)).2.1 rfl)).keep (hk3.step hx4 (by intros; (try simp only [] at *); omega))), ((hB1.ext hx2 (fun h => (hsep _ (⟨j, hj, h⟩)).2.2 rfl)).keep (hk3.step hx4 (by intros; (try simp only [] at *); omega))), (Ext.andThen (Ext.andThen (Ext.andThen hE hx2 (by intro k h1 h2; first | exact (h2 : False).elim | exact ⟨j, hj, h2⟩ | exact ⟨i, hin, .inr h2⟩ | (exfalso; (try simp only [] at *); omega))) hk3 (by intro k h1 h2; first | exact (h2 : False).elim | exact ⟨j, hj, h2⟩ | exact ⟨i, hin, .inr h2⟩ | (exfalso; (try simp only [] at *); omega))) hx4 (by intro k h1 h2; first | exact (h2 : False).elim | exact ⟨j, hj, h2⟩ | exact ⟨i, hin, .inr h2⟩ | (exfalso; (try simp only [] at *); omega))), by omega, (hCWs _ _ hCWl (Ext.andThen (Ext.andThen (Ext.andThen (Ext.refl (fun k => B ≤ k) _) hx2 (by intro k h1 h2; first | exact (h2 : False).elim | exact (HS.hU k ⟨j, hj, h2⟩).1 | ((try simp only [] at *); omega))) hk3 (by intro k h1 h2; first | exact (h2 : False).elim | exact (HS.hU k ⟨j, hj, h2⟩).1 | ((try simp only [] at *); omega))) hx4 (by intro k h1 h2; first | exact (h2 : False).elim | exact (HS.hU k ⟨j, hj, h2⟩).1 | ((try simp only [] at *); omega))))⟩ (by omega)
  · have hjn : n = j := by omega
    subst hjn
    refine X.opsEnd ?_
    refine X.seq ?_
    refine X.condF rfl ?_
    refine X.exit rfl ?_
    refine X.seq ?_
    refine X.seq ?_
    refine X.region ?_
    refine X.opw X.wN rfl (X.move rfl) ?_
    refine X.opB X.wN rfl rfl (X.nePtrN Try.underlying103 rfl rfl) (fun h36 => ?_) (fun h36 => ?_)
    · obtain ⟨⟨i, x⟩, hpn⟩ : ∃ q, pkC lt L n = some q := by
        cases hq : pkC lt L n with
        | none => rw [hq] at h36; simp [bestPC] at h36
        | some q => exact ⟨q, rfl⟩
      obtain ⟨hin, li, hLi⟩ := pkC_some hpn
      obtain ⟨x', hHi⟩ := hd1 i hin
      rw [hLi] at hHi
      rw [hpn]
      refine X.opsEnd ?_
      refine X.condT rfl ?_
      refine X.region ?_
      refine X.opw X.wN rfl (X.move rfl) ?_
      refine X.opE X.wN rfl (X.callE (cpass_c _ hHi (HS.bH i hin).1 (HS.tH i hin)) Try.call65 rfl rfl) ?_
      rintro _ w10 ⟨rfl, hH10, hx10⟩
      have hx10' := hx10.size
      refine X.opsEnd ?_
      refine X.seq ?_
      refine X.region ?_
      refine X.opw X.wN rfl (X.loadNB Try.isAgg70 Try.sizeOf70 (hB2.ext hx10 (fun h => by have := HS.hU _ (⟨i, hin, .inr h⟩); omega)) rfl rfl rfl) ?_
      refine X.opw X.wN rfl (X.move (v := .bool _) rfl) ?_
      refine X.opE X.wN rfl (X.storeNE Try.sizeOf70 (hB2.ext hx10 (fun h => by have := HS.hU _ (⟨i, hin, .inr h⟩); omega)) rfl rfl rfl rfl (fun u hu => by simp at hu; rcases hu with rfl | rfl <;> rfl)) ?_
      rintro _ w11 ⟨hB11, hx11, hz11⟩
      refine X.opw X.wN rfl (X.assign (v := .bool _) rfl) ?_
      refine X.opsEnd ?_
      refine X.ret_unw (X.unwR2 Try.func72 Try.results72 (X.ResOk.cell rfl (X.lvN Try.isAgg70 Try.sizeOf70 hB11 rfl)) (show X.ResOk _ _ _ (.tmp 3) (.bool _) from rfl) ?_)
      rw [mgCC_some hpn, hpn]
      exact ⟨rfl, (Ext.andThen (Ext.andThen hE hx10 (by intro k h1 h2; first | exact (h2 : False).elim | exact ⟨j, hj, h2⟩ | exact ⟨i, hin, .inr h2⟩ | (exfalso; (try simp only [] at *); omega))) hx11 (by intro k h1 h2; first | exact (h2 : False).elim | exact ⟨j, hj, h2⟩ | exact ⟨i, hin, .inr h2⟩ | (exfalso; (try simp only [] at *); omega))), fun _ => ⟨updLC L i, rfl, cheads_pass HS hBw hd1 hin hLi hH10 hx10 (Ext.andThen (Ext.refl (fun k => w.heap.size ≤ k) _) hx11 (by intro k h1 h2; first | exact (h2 : False).elim | omega | ((try simp only [] at *); omega))), fun j x h => updLC_mem h⟩⟩
    · have hpn : pkC lt L n = none := by
        cases hq : pkC lt L n with
        | none => rfl
        | some q => rw [hq] at h36; simp [bestPC] at h36
      refine X.opsEnd ?_
      refine X.condF rfl ?_
      refine X.skip ?_
      refine X.seq ?_
      refine X.region ?_
      refine X.opw X.wN rfl (X.loadNB Try.isAgg70 Try.sizeOf70 hB2 rfl rfl rfl) ?_
      refine X.opw X.wN rfl (X.move (v := .bool _) rfl) ?_
      refine X.opE X.wN rfl (X.storeNE Try.sizeOf70 hB2 rfl rfl rfl rfl (fun u hu => by simp at hu; rcases hu with rfl | rfl <;> rfl)) ?_
      rintro _ w12 ⟨hB12, hx12, hz12⟩
      refine X.opw X.wN rfl (X.assign (v := .bool _) rfl) ?_
      refine X.opsEnd ?_
      refine X.ret_unw (X.unwR2 Try.func72 Try.results72 (X.ResOk.cell rfl (X.lvN Try.isAgg70 Try.sizeOf70 hB12 rfl)) (show X.ResOk _ _ _ (.tmp 3) (.bool _) from rfl) ?_)
      rw [mgCC_none hpn, hpn]
      exact ⟨rfl, (Ext.andThen hE hx12 (by intro k h1 h2; first | exact (h2 : False).elim | exact ⟨j, hj, h2⟩ | exact ⟨i, hin, .inr h2⟩ | (exfalso; (try simp only [] at *); omega))), fun h => absurd rfl h⟩
end Go.Proofs.Ytgfficbkajcdpaa

namespace Go.Proofs.Ytgfficbkajcdpaa
open Go Go.Proofs.Ytgfficbkajcdpaa.X
set_option linter.unusedVariables false
set_option linter.unusedSimpArgs false
def IsCC (y : Value) : Prop := y = .nilIface ∨ ∃ p, y = .iface 108 p
theorem cbuild_hd (y : Value) (h : IsCC y) : Try.prog.built 107 [(0, y)] = some #[y, .slice none 0 0, .int .i64 0, .bool false, .bool false] := by
  rcases h with rfl | ⟨p, rfl⟩ <;> kernel_rfl
theorem EPhC : ElemInfo Try.prog 103 1 8 := ElemInfo.of (z := .pointer none) (by kernel_rfl) rfl rfl rfl
-- f71 "pedigree/merge.heads[pedigree/api.Counted]" params [97] results [115] -> [(ResultVar.tmp 2)] nfree 0 n
set_option maxHeartbeats 4000000 in
set_option maxRecDepth 100000 in
theorem cheads_c {lo hi : Nat} {A : Option Addr} {n c : Nat} {cs : List Value} (w : World) (hs : Sl KR1 lo hi w A n cs) (hn : n ≤ 1000000) (hci : ∀ (i : Nat) y, cs[i]? = some y → IsCC y) : Ret Try.prog 71 #[.slice A n c] w fun r w' => ∃ hbs : List Nat, hbs.length = n ∧ Mine KR1 103 (fun k => w.heap.size ≤ k ∧ k ∉ hbs) 0 0 w' r (hbs.map ptrV) ∧ (∀ (i b : Nat), hbs[i]? = some b → ∃ cv, cs[i]? = some cv ∧ Blk w' b (hdLC cv zC false false) 107) ∧ (∀ b, b ∈ hbs → w.heap.size ≤ b ∧ b < w'.heap.size) ∧ hbs.Nodup ∧ Keep w w' := by
  have hl := hs.len
  refine X.enter Try.func71 rfl Try.ntmps71 rfl ?_
  refine X.seq ?_
  refine X.region ?_
  refine X.opw X.wN rfl (X.assign rfl) ?_
  refine X.opsEnd ?_
  refine X.seq ?_
  refine X.region ?_
  refine X.opw X.wN rfl (X.assign rfl) ?_
  refine X.opsEnd ?_
  refine X.seq ?_
  refine X.seq ?_
  refine X.region ?_
  refine X.opw X.wN rfl (X.move (v := .slice _ _ _) rfl) ?_
  refine X.opw X.wN rfl (X.lenSl Try.underlying97 rfl) ?_
  refine X.opw X.wN rfl (X.move rfl) ?_
  refine X.opsEnd ?_
  refine X.block ?_
  -- LOOP live: 3=out*, 6, 7, 8*
  refine X.loopL (σ := Nat × Value × List Nat) (fun s => [(3, s.2.1), (6, .slice A n c), (7, .int .i64 (n : Int)), (8, .int .i64 (s.1 : Int))]) (fun s w' => s.2.2.length = s.1 ∧ s.1 ≤ n ∧ Mine KR1 103 (fun k => w.heap.size ≤ k ∧ k ∉ s.2.2) 0 0 w' s.2.1 (s.2.2.map ptrV) ∧ (∀ (i b : Nat), s.2.2[i]? = some b → ∃ cv, cs[i]? = some cv ∧ Blk w' b (hdLC cv zC false false) 107) ∧ (∀ b, b ∈ s.2.2 → w.heap.size ≤ b ∧ b < w'.heap.size) ∧ s.2.2.Nodup ∧ Keep w w') (fun s => n - s.1) (0, _, []) ⟨rfl, rfl, rfl, rfl, trivial⟩ ⟨rfl, by omega, Mine.nil _ _ _ _ _ _, fun i b h => by simp at h, fun b h => by simp at h, List.nodup_nil, (Keep.refl _)⟩ ?_
  rintro ⟨j, v, hbs⟩ b0 wl ⟨hj, hjn, hM, hbk, hbb, hnd, hk⟩ hback
  dsimp only
  simp only at hj hjn hM hbk hbb hnd
  have hk' := hk.size
  refine X.seq ?_
  refine X.region ?_
  refine X.opP X.wN rfl rfl (X.lss rfl rfl) (fun h9 => ?_) (fun h9 => ?_)
  · obtain ⟨y, hcj⟩ := getN j hl h9
    refine X.opsEnd ?_
    refine X.seq ?_
    refine X.condT rfl ?_
    refine X.skip ?_
    refine X.seq ?_
    refine X.block ?_
    refine X.seq ?_
    refine X.region ?_
    refine X.opw X.wN rfl (X.idxS (hs.keep hk) Try.underlying97 Try.sizeOf72 rfl rfl ⟨by omega, by omega⟩) ?_
    refine X.opw X.wN rfl (X.loadS Try.isAgg72 (hs.keep hk) hcj rfl (fun _ h => by rw [h.1]; rfl)) ?_
    refine X.opw X.wN rfl (X.assign rfl) ?_
    refine X.opsEnd ?_
    refine X.region ?_
    refine X.opw X.wN rfl (X.move rfl) ?_
    refine X.opw X.wN rfl (X.move rfl) ?_
    refine X.opw X.wN rfl (X.buildB (vs := [(0, y)]) (cs := #[y, .slice none 0 0, .int .i64 0, .bool false, .bool false]) rfl (cbuild_hd y (hci j y hcj))) ?_
    refine X.opE X.wN rfl (X.boxE rfl rfl) ?_
    rintro _ w1 ⟨rfl, hB1, hk1, hz1⟩
    refine X.opE X.wN rfl (X.litKF KR1_flat (K := KR1) (xs := [Operand.tmp 15]) (vs := [ptrV (wl.heap.size)]) (ys := [ptrV (wl.heap.size)]) Try.underlying115 Try.sizeOf103 Try.zeroValue103 rfl rfl rfl rfl rfl (reps_1 rfl rfl)) ?_
    rintro _ w2 ⟨rfl, hs2, hB2, hk2, hz2⟩
    refine X.opE X.wN rfl (X.appE (K := KR1) (S := fun k => w.heap.size ≤ k ∧ k ∉ hbs ++ [wl.heap.size]) KR1_flat Try.underlying115 EPhC rfl rfl ((hM.mono (T := fun k => w.heap.size ≤ k ∧ k ∉ hbs ++ [wl.heap.size]) (fun k hk hs => ⟨hs.1, fun h => (List.mem_append.1 h).elim hs.2 (fun h => by have := List.mem_singleton.1 h; omega)⟩)).keep (hk1.trans hk2)) hs2 (by rw [List.length_map]; (try simp only [List.length_singleton]); omega) (fun k hk => ⟨by omega, fun h => (List.mem_append.1 h).elim (fun h => by have := hbb k h; omega) (fun h => by have := List.mem_singleton.1 h; omega)⟩)) ?_
    rintro v3 w3 ⟨hM3, hx3⟩
    have hx3' := hx3.size
    refine X.opw X.wN rfl (X.assign rfl) ?_
    refine X.opsEnd ?_
    refine X.inBlock ?_
    refine X.region ?_
    refine X.opw X.wN rfl (X.add rfl rfl (X.w_i64 (by omega))) ?_
    refine X.opw X.wN rfl (X.move (v := .int .i64 _) rfl) ?_
    refine X.opsEnd ?_
    have hblk : ∀ (i x : Nat), (hbs ++ [wl.heap.size])[i]? = some x → ∃ cv, cs[i]? = some cv ∧ Blk w3 x (hdLC cv zC false false) 107 := by
      intro i x hix
      by_cases hi : i < hbs.length
      · rw [List.getElem?_append_left hi] at hix
        obtain ⟨cv, h1, h2⟩ := hbk i x hix
        exact ⟨cv, h1, (h2.keep (hk1.trans hk2)).ext hx3 (fun h => h.2 (List.mem_append.2 (.inl (mem_at hix))))⟩
      · rw [List.getElem?_append_right (by omega)] at hix
        have h0 : i - hbs.length = 0 := by
          have := (List.getElem?_eq_some_iff.1 hix).1
          simp at this; omega
        rw [h0] at hix
        simp at hix
        rw [← hix, show i = j by omega]
        exact ⟨_, hcj, ((hB1.keep hk2)).ext hx3 (fun h => h.2 (List.mem_append.2 (.inr (List.mem_singleton.2 rfl))))⟩
    have hbb2 : ∀ x, x ∈ hbs ++ [wl.heap.size] → w.heap.size ≤ x ∧ x < w3.heap.size := by
      intro x hx
      rcases List.mem_append.1 hx with h | h
      · have := hbb x h; omega
      · have := List.mem_singleton.1 h; omega
    have hnd2 : (hbs ++ [wl.heap.size]).Nodup := by
      rw [List.nodup_append]
      refine ⟨hnd, by simp, fun x hx y hy => ?_⟩
      have := hbb x hx
      have := List.mem_singleton.1 hy
      omega
    refine hback (j + 1, _, hbs ++ [wl.heap.size]) _ _ ⟨rfl, rfl, rfl, rfl, trivial⟩ ⟨by dsimp only; rw [List.length_append, hj]; rfl, by dsimp only; omega, by dsimp only; rw [List.map_append]; exact hM3, hblk, hbb2, hnd2, (((hk.trans hk1).trans hk2).step hx3 (by intros; (try simp only [] at *); omega))⟩ (by dsimp only; omega)
  · refine X.opsEnd ?_
    refine X.seq ?_
    refine X.condF rfl ?_
    refine X.exit rfl ?_
    refine X.seq ?_
    refine X.region ?_
    refine X.opw X.wN rfl (X.move rfl) ?_
    refine X.opw X.wN rfl (X.assign rfl) ?_
    refine X.opsEnd ?_
    refine X.ret1 Try.func71 Try.results71 rfl ?_
    exact ⟨hbs, by omega, hM, hbk, hbb, hnd, hk⟩
end Go.Proofs.Ytgfficbkajcdpaa

namespace Go.Proofs.Ytgfficbkajcdpaa
open Go Go.Proofs.Ytgfficbkajcdpaa.X
set_option linter.unusedVariables false
set_option linter.unusedSimpArgs false
theorem ccur_made {B bm a b : Nat} {fv : Value} {xs : List CT} {w : World} (h : Stp Try.prog evC zC B (fun k => a ≤ k ∧ k < b) fv xs w) (hb : Blk w bm [fv, .bool false] 110) (hBm : B ≤ bm) (hT : b ≤ bm) (hab : a ≤ bm) : CVC B (fun k => a ≤ k ∧ k < bm + 1) (.iface 108 (.pointer (some ⟨bm, 0, none⟩))) xs w := by
  have hlt := hb.lt
  refine .inr ⟨_, rfl, (Cur.made h hb hBm (fun h => by omega) (fun k hk => by omega) (fun w h => nextc_over fv bm w h) (fun xs w R h1 h2 h3 => nextc_step fv bm _ (fun h => by omega) xs w R h1 h2 h3)).wide fun k hk => ?_⟩
  rcases hk with hk | hk <;> omega
theorem CVC.wide {B : Nat} {T U : Nat → Prop} {c : Value} {xs : List CT} {w : World} (h : CVC B T c xs w) (hU : ∀ k, T k → U k) : CVC B U c xs w := h.imp id fun ⟨p, h1, h2⟩ => ⟨p, h1, h2.wide hU⟩
theorem cheads_c2 {lo hi : Nat} {A : Option Addr} {n c : Nat} {cs : List Value} (w : World) (hs : Sl KR1 lo hi w A n cs) (hn : n ≤ 1000000) (hci : ∀ (i : Nat) y, cs[i]? = some y → IsCC y) : Ret Try.prog 71 #[.slice A n c] w fun r w' => ∃ (hbs : List Nat) (l h : Nat) (A : Option Addr) (c : Nat), r = .slice A n c ∧ n ≤ c ∧ (∀ k, l ≤ k → k < h → k ∉ hbs) ∧ w.heap.size ≤ l ∧ h ≤ w'.heap.size ∧ hbs.length = n ∧ Sl KR1 l h w' A n (hbs.map ptrV) ∧ (∀ (i b : Nat), hbs[i]? = some b → ∃ cv, cs[i]? = some cv ∧ Blk w' b (hdLC cv zC false false) 107) ∧ (∀ b, b ∈ hbs → w.heap.size ≤ b ∧ b < w'.heap.size) ∧ hbs.Nodup ∧ Keep w w' := by
  refine (cheads_c w hs hn hci).mono ?_
  rintro r w' ⟨hbs, h1, h2, h3, h4, h5, h6⟩
  obtain ⟨l, h, A, c, g1, g2, g3, g4, g5, g6⟩ := Mine.range KR1_flat h2 (fun k hk => hk.1) h6.size
  rw [List.length_map, h1] at g4 g5 g6
  exact ⟨hbs, l, h, A, c, g4, g5, fun k a b => (g1 k a b).2, g2, g3, h1, g6, h3, h4, h5, h6⟩
theorem cmg_stp {ok : CT → Prop} {lt : CT → CT → Bool} {CW : World → Prop} {B n a b : Nat} {hb : Nat → Nat} {Tj : Nat → Nat → Prop} {L : Nat → List CT} {c0 c1 : Nat} {cv : Value} {lo hi : Nat} {A : Option Addr} {c : Nat} {vs : List Value} {w : World} (HS : HSet B n hb Tj b) (hBa : B ≤ a) (hn : n ≤ 1000000) (hbw : b ≤ w.heap.size)
    (hTa : ∀ j, j < n → ∀ k, Tj j k → a ≤ k) (hba : ∀ j, j < n → a ≤ hb j) (hlo : a ≤ lo) (hhi : hi ≤ b) (h0 : a ≤ c0 ∧ c0 < b) (h1 : a ≤ c1 ∧ c1 < b)
    (hsl : Sl KR1 lo hi w A n vs) (hvs : ∀ j, j < n → vs[j]? = some (ptrV (hb j))) (hc0 : Blk w c0 [.slice A n c] 115) (hc1 : Blk w c1 [cv] 105) (hsep : ∀ k, UU n hb Tj k → ¬ (lo ≤ k ∧ k < hi) ∧ k ≠ c0 ∧ k ≠ c1) (hd : ∀ j, j < n → HdC B (Tj j) (hb j) (L j) w) (hok : ∀ j, j < n → ∀ x, x ∈ L j → ok x) (hCW : CW w) (hCWs : ∀ w w', CW w → Ext (fun k => B ≤ k) w w' → CW w')
    (hcmp : ∀ (x y : CT) (wa : World), ok x → ok y → CW wa → YC Try.prog cv [evC x, evC y] wa fun r wb => ∃ nc, r = .int .i64 nc ∧ (nc < 0 ↔ lt x y = true) ∧ Keep wa wb) : Stp Try.prog evC zC B (fun k => a ≤ k ∧ k < b) (.func (.func 72) #[] #[ptrV c0, ptrV c1]) (mgCC lt n L) w := by
  have hUa : ∀ k, UU n hb Tj k → a ≤ k ∧ k < b := by
    rintro k ⟨j, hj, hk⟩
    refine ⟨?_, (HS.hU k ⟨j, hj, hk⟩).2⟩
    rcases hk with hk | hk
    · exact hTa j hj k hk
    · rw [hk]; exact hba j hj
  refine ⟨fun xs w => ∃ L, xs = mgCC lt n L ∧ b ≤ w.heap.size ∧ Sl KR1 lo hi w A n vs ∧ Blk w c0 [.slice A n c] 115 ∧ Blk w c1 [cv] 105 ∧ (∀ j, j < n → HdC B (Tj j) (hb j) (L j) w) ∧ CW w ∧ (∀ j, j < n → ∀ x, x ∈ L j → ok x), ⟨L, rfl, hbw, hsl, hc0, hc1, hd, hCW, hok⟩, ?_, ?_⟩
  · rintro xs w w' ⟨L, g1, g2, g3, g4, g5, g6, g7, g8⟩ ha
    have hz := ha.size
    exact ⟨L, g1, by omega, g3.ext ha (fun k x y z => z.2 ⟨by omega, by omega⟩), ha.blk g4 h0, ha.blk g5 h1, fun j hj => (g6 j hj).ext ha fun k _ hk => ⟨hk.1, fun h => hk.2 (hUa k ⟨j, hj, .inl h⟩), fun h => hk.2 (hUa k ⟨j, hj, .inr h⟩)⟩, hCWs _ _ g7 (Ext.mono ha fun k _ h => h.1), g8⟩
  · rintro xs w ⟨L, rfl, g2, g3, g4, g5, g6, g7, g8⟩
    refine YC.of_ret (args := []) (cap := [_, _]) ((CMerge1_c ok lt CW B n hb Tj L c0 c1 cv w (HS.mono g2) (by omega) hn g7 hCWs g3 (by omega) hvs g4 g5 hsep g6 g8 hcmp).mono ?_) Try.call72
    rintro r w' ⟨rfl, hx, hn'⟩
    have hz := hx.size
    refine ⟨rfl, hx.mono fun k _ hk => hUa k hk, fun hne => ?_⟩
    obtain ⟨L', q1, q2, q3⟩ := hn' hne
    exact ⟨L', q1, by omega, g3.ext hx (fun k x y z => (hsep k z).1 ⟨x, y⟩), g4.ext hx (fun h => (hsep _ h).2.1 rfl), g5.ext hx (fun h => (hsep _ h).2.2 rfl), q2, hCWs _ _ g7 (Ext.mono hx fun k _ h => (HS.hU k h).1), fun j hj x h => g8 j hj x (q3 j x h)⟩
-- f61 "pedigree/merge.Merge[pedigree/api.Counted]" params [105, 97] results [72] -> [(ResultVar.tmp 4)] nfree
set_option maxHeartbeats 4000000 in
set_option maxRecDepth 100000 in
theorem CMerge_c {ok : CT → Prop} {lt : CT → CT → Bool} {CW : World → Prop} {B a n : Nat} {Tj : Nat → Nat → Prop} {L : Nat → List CT} {fn : Fn} {bs ca : Array Value} {lo hi : Nat} {A : Option Addr} {c : Nat} {cs : List Value} (w : World) (hs : Sl KR1 lo hi w A n cs) (hn : n ≤ 1000000) (hBa : B ≤ a) (haw : a ≤ w.heap.size)
    (hT : ∀ j, j < n → ∀ k, Tj j k → a ≤ k ∧ k < w.heap.size) (hdis : ∀ i j, i < n → j < n → i ≠ j → ∀ k, Tj i k → ¬ Tj j k) (hcv : ∀ (j : Nat) y, cs[j]? = some y → CVC B (Tj j) y (L j) w) (hok : ∀ j, j < n → ∀ x, x ∈ L j → ok x) (hCW : CW w) (hCWs : ∀ w w', CW w → Ext (fun k => B ≤ k) w w' → CW w')
    (hcmp : ∀ (x y : CT) (wa : World), ok x → ok y → CW wa → YC Try.prog (.func fn bs ca) [evC x, evC y] wa fun r wb => ∃ nc, r = .int .i64 nc ∧ (nc < 0 ↔ lt x y = true) ∧ Keep wa wb) : Ret Try.prog 61 #[.func fn bs ca, .slice A n c] w fun r w' => (∃ p, r = .iface 108 p) ∧ CVC B (fun k => a ≤ k ∧ k < w'.heap.size) r (mgCC lt n L) w' ∧ Keep w w' := by
  have hci : ∀ (i : Nat) y, cs[i]? = some y → IsCC y := fun i y h => (hcv i y h).elim (fun h => .inl h.1) (fun ⟨p, h, _⟩ => .inr ⟨p, h⟩)
  refine X.enter Try.func61 rfl Try.ntmps61 rfl ?_
  refine X.seq ?_
  refine X.region ?_
  refine X.opE X.wN rfl (X.boxE rfl rfl) ?_
  rintro _ w1 ⟨rfl, hB1, hk1, hz1⟩
  refine X.opw X.wN rfl (X.assign rfl) ?_
  refine X.opsEnd ?_
  refine X.seq ?_
  refine X.seq ?_
  refine X.region ?_
  refine X.opw X.wN rfl (X.load1B Try.isAgg105 hB1 rfl rfl) ?_
  refine X.opw X.wN rfl (X.eqFn1 Try.underlying105 rfl rfl) ?_
  refine X.opsEnd ?_
  refine X.condF rfl ?_
  refine X.skip ?_
  refine X.seq ?_
  refine X.region ?_
  refine X.opw X.wN rfl (X.move (v := .slice _ _ _) rfl) ?_
  refine X.opE X.wN rfl (X.callE (cheads_c2 _ (hs.keep hk1) hn hci) Try.call71 rfl rfl) ?_
  rintro _ w2 ⟨hbs, l, h, Aq, cq, rfl, hcq, hlh, hl, hh, hbl, hsq, hbk, hbb, hnd, hk2⟩
  have hk2' := hk2.size
  refine X.opE X.wN rfl (X.allocE Try.zeroValue115 rfl) ?_
  rintro _ w3 ⟨rfl, hB3, hk3, hz3⟩
  refine X.opE X.wN rfl (X.storeE Try.sizeOf115 hB3 rfl rfl rfl rfl) ?_
  rintro _ w4 ⟨hB4, hx4, hz4⟩
  refine X.opsEnd ?_
  refine X.seq ?_
  refine X.region ?_
  refine X.opw X.wN rfl (X.mkFunc rfl) ?_
  refine X.opw X.wN rfl (X.buildB (vs := [(0, .func (.func 72) #[] #[ptrV (w2.heap.size), ptrV (w.heap.size)])]) (cs := #[.func (.func 72) #[] #[ptrV (w2.heap.size), ptrV (w.heap.size)], .bool false]) rfl (by kernel_rfl)) ?_
  refine X.opE X.wN rfl (X.boxE rfl rfl) ?_
  rintro _ w5 ⟨rfl, hB5, hk5, hz5⟩
  refine X.opw X.wN rfl (X.mkIface Try.underlying108 rfl rfl) ?_
  refine X.opw X.wN rfl (X.assign rfl) ?_
  refine X.opsEnd ?_
  refine X.ret1 Try.func61 Try.results61 rfl ?_
  have hg : ∀ j, j < n → hbs[j]? = some (hbs.getD j 0) := fun j hj => by
    have := List.getElem?_eq_getElem (l := hbs) (i := j) (by omega)
    rw [this, List.getD_eq_getElem?_getD, this]; rfl
  have hgb : ∀ j, j < n → w1.heap.size ≤ hbs.getD j 0 ∧ hbs.getD j 0 < w2.heap.size := fun j hj => hbb _ (mem_at (hg j hj))
  have HS : HSet B n (fun j => hbs.getD j 0) Tj w4.heap.size := by
    refine ⟨fun j hj k hk => by have := hT j hj k hk; omega, fun j hj => by have := hgb j hj; (try simp only []); omega, fun j hj h => by have := hT j hj _ h; have := hgb j hj; (try simp only [] at *); omega, fun i j hi hj hne k h1 h2 => ?_⟩
    have gi := hgb i hi
    have gj := hgb j hj
    try simp only at h1 h2
    rcases h1 with h1 | h1 <;> rcases h2 with h2 | h2
    · exact hdis i j hi hj hne k h1 h2
    · have := hT i hi k h1; omega
    · have := hT j hj k h2; omega
    · exact hne (nodup_at hnd (by rw [hg i hi, ← h1]) (by rw [hg j hj, ← h2]))
  have hsep : ∀ k, UU n (fun j => hbs.getD j 0) Tj k → ¬ (l ≤ k ∧ k < h) ∧ k ≠ w2.heap.size ∧ k ≠ w.heap.size := by
    rintro k ⟨j, hj, h1 | h1⟩
    · have := hT j hj k h1; (try simp only [] at *); exact ⟨by omega, by omega, by omega⟩
    · have h1 : k = hbs.getD j 0 := h1
      have := hgb j hj
      refine ⟨fun hq => hlh k hq.1 hq.2 (by rw [h1]; exact mem_at (hg j hj)), by omega, by omega⟩
  refine ⟨⟨_, rfl⟩, ?_, ((((hk1.trans hk2).trans hk3).step hx4 (by intros; (try simp only [] at *); omega)).trans hk5)⟩
  refine CVC.wide (ccur_made (a := a) (b := w4.heap.size) (cmg_stp (L := L) HS hBa hn (by omega) (fun j hj k hk => (hT j hj k hk).1) (fun j hj => by have := hgb j hj; (try simp only []); omega) (by omega) (by omega) ⟨by omega, by omega⟩ ⟨by omega, by omega⟩ ((hsq.keep ((hk3.step hx4 (by intros; (try simp only [] at *); omega)).trans hk5))) (fun j hj => by rw [List.getElem?_map, hg j hj]; rfl) (hB4.keep hk5) (hB1.keep (((hk2.trans hk3).step hx4 (by intros; (try simp only [] at *); omega)).trans hk5)) hsep (fun j hj => ?_) hok (hCWs _ _ hCW (((((hk1.trans hk2).trans hk3).step hx4 (by intros; (try simp only [] at *); omega)).trans hk5).mono fun _ _ h => h.elim)) hCWs hcmp) hB5 (by omega) (Nat.le_refl _) (by omega)) (fun k hk => by omega)
  obtain ⟨y, hy1, hy2⟩ := hbk j _ (hg j hj)
  exact .inl ⟨y, zC, ((hy2.keep ((hk3.step hx4 (by intros; (try simp only [] at *); omega)).trans hk5))), (hcv j y hy1).agree (Agree.of_keep ((((hk1.trans hk2).trans hk3).step hx4 (by intros; (try simp only [] at *); omega)).trans hk5))⟩
end Go.Proofs.Ytgfficbkajcdpaa

namespace Go.Proofs.Ytgfficbkajcdpaa
open Go Go.Proofs.Ytgfficbkajcdpaa.X
set_option linter.unusedVariables false
set_option linter.unusedSimpArgs false
theorem cfresh_t {w w' : World} {v : Value} {l : List CT} (h : Fresh KCt 70 w w' v l) : ∃ A c, v = .slice A l.length c ∧ l.length ≤ c ∧ Sl KCt w.heap.size w'.heap.size w' A l.length l ∧ Keep w w' := by
  obtain ⟨A, c, h1, h2, h3⟩ := (h.1.flat KCt_flat (lo' := w.heap.size) (hi' := w'.heap.size)).sl (fun k hk hs => ⟨hs, hk⟩)
  exact ⟨A, c, h1, h2, h3, h.2⟩
-- f68 "slices.Clone[[]pedigree/api.Counted,pedigree/api.Counted]" params [64] results [64] -> [(ResultVar.tmp
set_option maxHeartbeats 4000000 in
set_option maxRecDepth 100000 in
theorem CClone_c {lo hi : Nat} {A : Option Addr} {n c : Nat} {l : List CT} (w : World) (hs : Sl KCt lo hi w A n l) (hn : n ≤ 1000000) : Ret Try.prog 68 #[.slice A n c] w fun r w' => Fresh KCt 70 w w' r l := by
  have hl := hs.len
  refine X.enter Try.func68 rfl Try.ntmps68 rfl ?_
  refine X.seq ?_
  refine X.region ?_
  refine X.opw X.wN rfl (X.assign rfl) ?_
  refine X.opsEnd ?_
  refine X.seq ?_
  refine X.seq ?_
  refine X.region ?_
  refine X.opw X.wN rfl (X.move (v := .slice _ _ _) rfl) ?_
  refine X.opB X.wN rfl rfl (X.eqNil Try.underlying64 rfl rfl) (fun h4 => ?_) (fun h4 => ?_)
  · refine X.opsEnd ?_
    refine X.condT rfl ?_
    refine X.seq ?_
    refine X.region ?_
    refine X.opw X.wN rfl (X.assign rfl) ?_
    refine X.opsEnd ?_
    refine X.ret1 Try.func68 Try.results68 rfl ?_
    refine ⟨?_, (Keep.refl _)⟩
    rcases Nat.eq_zero_or_pos n with h | h
    · have hq : l = [] := List.eq_nil_of_length_eq_zero (by omega)
      subst hq; exact (Mine.nil _ _ _ _ _ _)
    · obtain ⟨ad, e, _⟩ := hs.at_ h
      subst e; simp at h4
  · refine X.opsEnd ?_
    refine X.condF rfl ?_
    refine X.skip ?_
    refine X.seq ?_
    refine X.region ?_
    refine X.opE X.wN rfl (X.lit0E (K := KCt) (S := fun k => w.heap.size ≤ k) Try.underlying64 Try.sizeOf70 (by intros; (try simp only [] at *); omega)) ?_
    rintro v1 w1 ⟨hM1, hk1, hz1⟩
    refine X.opw X.wN rfl (X.move (v := .slice _ _ _) rfl) ?_
    refine X.opE X.wN rfl (X.appE (K := KCt) (S := fun k => w.heap.size ≤ k) KCt_flat Try.underlying64 ECt rfl rfl hM1 (hs.keep hk1) (by (try simp only [List.length_append, List.length_cons, List.length_nil, List.length_take, List.length_drop, List.length_map, List.length_range]); omega) (by intros; (try simp only [] at *); omega)) ?_
    rintro v2 w2 ⟨hM2, hx2⟩
    have hx2' := hx2.size
    refine X.opw X.wN rfl (X.assign rfl) ?_
    refine X.opsEnd ?_
    refine X.ret1 Try.func68 Try.results68 rfl ?_
    exact ⟨hM2, (hk1.step hx2 (by intros; (try simp only [] at *); omega))⟩
-- f69 "pedigree/merge.Of[pedigree/api.Counted]$1" params [] results [70, 4] -> [(ResultVar.cell 2 70), (Resul
set_option maxHeartbeats 4000000 in
set_option maxRecDepth 100000 in
theorem COf1_c (i bi br : Nat) (hne : bi ≠ br) {lo hh : Nat} {A : Option Addr} {n c : Nat} {l : List CT} (w : World) (hs : Sl KCt lo hh w A n l) (hi : i ≤ n) (hn : n ≤ 1000000) (hbi : Blk w bi [.int .i64 (i : Int)] 3) (hbr : Blk w br [.slice A n c] 64) (hd : bi < lo ∨ hh ≤ bi) : Ret Try.prog 69 #[.pointer (some ⟨bi, 0, none⟩), .pointer (some ⟨br, 0, none⟩)] w fun r w' => r = hdV evC zC (l.drop i) ∧ Ext (fun k => k = bi) w w' ∧ (l.drop i ≠ [] → i < n ∧ Blk w' bi [.int .i64 ((i + 1 : Nat) : Int)] 3) := by
  have hl := hs.len
  have hbil := hbi.lt
  have hbrl := hbr.lt
  refine X.enter Try.func69 rfl Try.ntmps69 rfl ?_
  refine X.seq ?_
  refine X.region ?_
  refine X.opE X.wN rfl (X.allocE Try.zeroValue70 rfl) ?_
  rintro _ w1 ⟨rfl, hB1, hk1, hz1⟩
  refine X.opw X.wN rfl (X.assign rfl) ?_
  refine X.opsEnd ?_
  refine X.seq ?_
  refine X.seq ?_
  refine X.region ?_
  refine X.opw X.wN rfl (X.load1B Try.isAgg3 (hbi.keep hk1) rfl rfl) ?_
  refine X.opw X.wN rfl (X.load1B Try.isAgg64 (hbr.keep hk1) rfl rfl) ?_
  refine X.opw X.wN rfl (X.lenSl Try.underlying64 rfl) ?_
  refine X.opP X.wN rfl rfl (X.eqI rfl rfl) (fun h7 => ?_) (fun h7 => ?_)
  · refine X.opsEnd ?_
    refine X.condT rfl ?_
    refine X.seq ?_
    refine X.region ?_
    refine X.opw X.wN rfl (X.loadNB Try.isAgg70 Try.sizeOf70 hB1 rfl rfl rfl) ?_
    refine X.opE X.wN rfl (X.storeNE Try.sizeOf70 hB1 rfl rfl rfl rfl (fun u hu => by simp at hu; rcases hu with rfl | rfl <;> rfl)) ?_
    rintro _ w2 ⟨hB2, hx2, hz2⟩
    refine X.opw X.wN rfl (X.assign rfl) ?_
    refine X.opsEnd ?_
    refine X.ret_unw (X.unwR2 Try.func69 Try.results69 (X.ResOk.cell rfl (X.lvN Try.isAgg70 Try.sizeOf70 hB2 rfl)) (show X.ResOk _ _ _ (.tmp 3) (.bool _) from rfl) ?_)
    rw [List.drop_of_length_le (show l.length ≤ i by omega)]
    exact ⟨rfl, (Ext.andThen (Ext.andThen (Ext.refl (fun k => k = bi) _) hk1 (by intro k h1 h2; first | exact h2.elim | omega | (simp only [] at *; omega))) hx2 (by intro k h1 h2; first | exact h2.elim | omega | (simp only [] at *; omega))), fun h => absurd rfl h⟩
  · obtain ⟨x, hx⟩ := getN i hl (by omega)
    refine X.opsEnd ?_
    refine X.condF rfl ?_
    refine X.skip ?_
    refine X.seq ?_
    refine X.region ?_
    refine X.opw X.wN rfl (X.load1B Try.isAgg3 (hbi.keep hk1) rfl rfl) ?_
    refine X.opw X.wN rfl (X.add (c := ((i + 1 : Nat) : Int)) rfl rfl (by rw [X.w_i64 (by omega)]; omega)) ?_
    refine X.opE X.wN rfl (X.storeE Try.sizeOf3 (hbi.keep hk1) rfl rfl rfl rfl) ?_
    rintro _ w3 ⟨hB3, hx3, hz3⟩
    refine X.opsEnd ?_
    refine X.seq ?_
    refine X.region ?_
    refine X.opw X.wN rfl (X.load1B Try.isAgg64 ((hbr.keep hk1).ext hx3 (by intros; (try simp only []); omega)) rfl rfl) ?_
    refine X.opw X.wN rfl (X.load1B Try.isAgg3 hB3 rfl rfl) ?_
    refine X.opw X.wN rfl (X.sub (c := (i : Int)) rfl rfl (by rw [X.w_i64 (by omega)]; omega)) ?_
    refine X.opw X.wN rfl (X.idxS ((hs.keep hk1).ext hx3 (by intros; (try simp only []); omega)) Try.underlying64 Try.sizeOf70 rfl rfl ⟨by omega, by omega⟩) ?_
    refine X.opw X.wN rfl (X.loadSN Try.isAgg70 Try.sizeOf70 ((hs.keep hk1).ext hx3 (by intros; (try simp only []); omega)) hx rfl (fun _ h => h.1) rfl) ?_
    refine X.opE X.wN rfl (X.storeNE Try.sizeOf70 (hB1.ext hx3 (by intros; (try simp only []); omega)) rfl rfl rfl rfl (fun u hu => by simp at hu; rcases hu with rfl | rfl <;> rfl)) ?_
    rintro _ w4 ⟨hB4, hx4, hz4⟩
    refine X.opw X.wN rfl (X.assign rfl) ?_
    refine X.opsEnd ?_
    refine X.ret_unw (X.unwR2 Try.func69 Try.results69 (X.ResOk.cell rfl (X.lvN Try.isAgg70 Try.sizeOf70 hB4 rfl)) (show X.ResOk _ _ _ (.tmp 3) (.bool _) from rfl) ?_)
    rw [drop_at hx]
    exact ⟨rfl, (Ext.andThen (Ext.andThen (Ext.andThen (Ext.refl (fun k => k = bi) _) hk1 (by intro k h1 h2; first | exact h2.elim | omega | (simp only [] at *; omega))) hx3 (by intro k h1 h2; first | exact h2.elim | omega | (simp only [] at *; omega))) hx4 (by intro k h1 h2; first | exact h2.elim | omega | (simp only [] at *; omega))), fun _ => ⟨by omega, (hB3.ext hx4 (by intros; (try simp only []); omega))⟩⟩
theorem CSl.agree {lo hi B : Nat} {T : Nat → Prop} {w w' : World} {A : Option Addr} {n : Nat} {l : List CT} (h : Sl KCt lo hi w A n l) (ha : Agree T B w w') (hT : ∀ k, lo ≤ k → k < hi → k < B ∨ T k) : Sl KCt lo hi w' A n l :=
  Sl.ext h ha (fun k h1 h2 h3 => (hT k h1 h2).elim (fun h => by omega) h3.2)
/-- A row's step. -/
theorem cof_stp (B a b bi br : Nat) (hne : bi ≠ br) {lo hi : Nat} {A : Option Addr} {n c : Nat} {l : List CT} (w : World) (hs : Sl KCt lo hi w A n l) (hn : n ≤ 1000000) (hbi : Blk w bi [.int .i64 0] 3) (hbr : Blk w br [.slice A n c] 64) (hd : bi < lo ∨ hi ≤ bi) (h1 : a ≤ lo) (h2 : hi ≤ b) (h3 : a ≤ bi ∧ bi < b) (h4 : a ≤ br ∧ br < b) :
    Stp Try.prog evC zC B (fun k => a ≤ k ∧ k < b) (.func (.func 69) #[] #[.pointer (some ⟨bi, 0, none⟩), .pointer (some ⟨br, 0, none⟩)]) l w := by
  refine ⟨fun xs w => ∃ i, i ≤ n ∧ xs = l.drop i ∧ Blk w bi [.int .i64 (i : Int)] 3 ∧ Blk w br [.slice A n c] 64 ∧ Sl KCt lo hi w A n l, ⟨0, Nat.zero_le _, rfl, hbi, hbr, hs⟩, ?_, ?_⟩
  · rintro xs w w' ⟨i, g1, g2, g3, g4, g5⟩ ha
    exact ⟨i, g1, g2, ha.blk g3 h3, ha.blk g4 h4, CSl.agree g5 ha fun k x y => .inr ⟨by omega, by omega⟩⟩
  · rintro xs w ⟨i, g1, rfl, g3, g4, g5⟩
    refine YC.of_ret (args := []) (cap := [_, _]) ((COf1_c i bi br hne w g5 g1 hn g3 g4 hd).mono ?_) Try.call69
    rintro r w' ⟨rfl, hx, hn'⟩
    refine ⟨rfl, hx.mono fun k _ hk => by rw [show k = bi from hk]; exact h3, fun hne' => ?_⟩
    obtain ⟨q1, q2⟩ := hn' hne'
    exact ⟨i + 1, q1, by rw [List.tail_drop], q2, g4.ext hx (fun e => hne e.symm), g5.ext hx (by intro k x y e; have e : k = bi := e; omega)⟩
-- f59 "pedigree/merge.Of[pedigree/api.Counted]" params [64] results [72] -> [(ResultVar.tmp 2)] nfree 0 ntmps
set_option maxHeartbeats 4000000 in
set_option maxRecDepth 100000 in
theorem COf_c (B : Nat) {lo hi : Nat} {A : Option Addr} {n c : Nat} {l : List CT} (w : World) (hs : Sl KCt lo hi w A n l) (hB : B ≤ w.heap.size) (hn : n ≤ 1000000) : Ret Try.prog 59 #[.slice A n c] w fun r w' => ∃ bm, r = .iface 108 (.pointer (some ⟨bm, 0, none⟩)) ∧ CVC B (fun k => w.heap.size ≤ k ∧ k < w'.heap.size) r l w' ∧ Keep w w' := by
  have hl := hs.len
  refine X.enter Try.func59 rfl Try.ntmps59 rfl ?_
  refine X.seq ?_
  refine X.region ?_
  refine X.opE X.wN rfl (X.boxE rfl rfl) ?_
  rintro _ w1 ⟨rfl, hB1, hk1, hz1⟩
  refine X.opw X.wN rfl (X.assign rfl) ?_
  refine X.opsEnd ?_
  refine X.seq ?_
  refine X.region ?_
  refine X.opw X.wN rfl (X.load1B Try.isAgg64 hB1 rfl rfl) ?_
  refine X.opE X.wN rfl (X.callE ((CClone_c _ (hs.keep hk1) hn).mono fun _ _ h => cfresh_t h) Try.call68 rfl rfl) ?_
  rintro _ w2 ⟨A2, c2, rfl, hc2, hs2, hk2⟩
  have hk2' := hk2.size
  refine X.opE X.wN rfl (X.storeE Try.sizeOf64 (hB1.keep hk2) rfl rfl rfl rfl) ?_
  rintro _ w3 ⟨hB3, hx3, hz3⟩
  refine X.opsEnd ?_
  refine X.seq ?_
  refine X.region ?_
  refine X.opE X.wN rfl (X.allocE Try.zeroValue3 rfl) ?_
  rintro _ w4 ⟨rfl, hB4, hk4, hz4⟩
  refine X.opE X.wN rfl (X.storeE Try.sizeOf3 hB4 rfl rfl rfl rfl) ?_
  rintro _ w5 ⟨hB5, hx5, hz5⟩
  refine X.opsEnd ?_
  refine X.seq ?_
  refine X.region ?_
  refine X.opw X.wN rfl (X.mkFunc rfl) ?_
  refine X.opw X.wN rfl (X.buildB (vs := [(0, .func (.func 69) #[] #[.pointer (some ⟨w3.heap.size, 0, none⟩), .pointer (some ⟨w.heap.size, 0, none⟩)])]) (cs := #[.func (.func 69) #[] #[.pointer (some ⟨w3.heap.size, 0, none⟩), .pointer (some ⟨w.heap.size, 0, none⟩)], .bool false]) rfl (by kernel_rfl)) ?_
  refine X.opE X.wN rfl (X.boxE rfl rfl) ?_
  rintro _ w6 ⟨rfl, hB6, hk6, hz6⟩
  refine X.opw X.wN rfl (X.mkIface Try.underlying108 rfl rfl) ?_
  refine X.opw X.wN rfl (X.assign rfl) ?_
  refine X.opsEnd ?_
  refine X.ret1 Try.func59 Try.results59 rfl ?_
  exact ⟨_, rfl, (ccur_made (cof_stp B w.heap.size (w3.heap.size + 1) w3.heap.size w.heap.size (by omega) _ ((hs2.ext hx3 (by intros; (try simp only []); omega)).keep ((hk4.step hx5 (by intros; (try simp only [] at *); omega)).trans hk6)) (by have := hs2.len; omega) (hB5.keep hk6) (hB3.keep ((hk4.step hx5 (by intros; (try simp only [] at *); omega)).trans hk6)) (by omega) (by omega) (by omega) (by omega) (by omega)) hB6 (by omega) (by omega) (by omega)).wide (fun k hk => by omega), (((((hk1.trans hk2).step hx3 (by intros; (try simp only [] at *); omega)).trans hk4).step hx5 (by intros; (try simp only [] at *); omega)).trans hk6)⟩
end Go.Proofs.Ytgfficbkajcdpaa

namespace Go.Proofs.Ytgfficbkajcdpaa.X
open Go
section
variable {P : Program} {ρ : Operand → Value} {w : World} {dst : Option Tmp} {ty : TypeId} {pos : String} {aft : Array Edge} {g : Option (Nat × Bool)}
theorem gtD {T T' : TypeId} {x y : Operand} {a b : ByteArray} (hx : ρ x = .string a) (hy : ρ y = .string b) : Does P ⟨dst, .binOp .gtr T x y T', ty, pos, aft, g⟩ ρ w (.bool (Op.bytesLess b.data.toList a.data.toList)) w := by
  have key : Op.bytesLess b.data.toList a.data.toList = !(Op.bytesLess a.data.toList b.data.toList || a.data.toList == b.data.toList) := by
    generalize a.data.toList = x
    generalize b.data.toList = y
    induction x generalizing y with
    | nil => cases y <;> simp [Op.bytesLess]
    | cons c x ih =>
      cases y with
      | nil => simp [Op.bytesLess]
      | cons d y =>
        simp only [Op.bytesLess]
        rw [ih y]
        by_cases h : c = d
        · subst h; simp
        · have h2 : ¬ d = c := fun e => h e.symm
          have : (d < c) ↔ ¬ (c < d) := by
            constructor
            · intro h3 h4; exact absurd (UInt8.lt_trans h3 h4) (UInt8.lt_irrefl _)
            · intro h3; exact UInt8.lt_of_le_of_ne (UInt8.not_lt.1 h3) h2
          by_cases h3 : c < d <;> simp [h, h2, h3, this]
  exact does_run rfl (by
    simp only [execOp, hx, hy, binOp, eqGuard, Op.stringOp]
    simp only [ByteArray.toList_eq, key]
    simp)
end
end Go.Proofs.Ytgfficbkajcdpaa.X

namespace Go.Proofs.Ytgfficbkajcdpaa
open Go Go.Proofs.Ytgfficbkajcdpaa.X
set_option linter.unusedVariables false
set_option linter.unusedSimpArgs false
/-- A value: its kind, its number, its symbol. -/
abbrev VAL := Int × Int × ByteArray
def encV (v : VAL) : List Value := [.int .i64 v.1, .int .i64 v.2.1, .string v.2.2]
def okI (n : Int) : Prop := -9223372036854775808 ≤ n ∧ n ≤ 9223372036854775807
def okV (v : VAL) : Prop := okI v.1 ∧ okI v.2.1 ∧ v.2.2.size ≤ 9223372036854775807
def KV : Kd VAL := Kd.plain 3 encV okV (fun _ => rfl) (fun x u hu => by simp [encV] at hu; rcases hu with rfl | rfl | rfl <;> rfl)
theorem KV_flat : Flat KV := fun h => h
theorem encV_one (x : VAL) : ∀ u, u ∈ encV x → u.oneCell' = true := fun u hu => by simp [encV] at hu; rcases hu with rfl | rfl | rfl <;> rfl
theorem KV_ok {lo hi : Nat} {w : World} {A : Option Addr} {n : Nat} {l : List VAL} (h : Sl KV lo hi w A n l) (i : Nat) (x : VAL) (hx : l[i]? = some x) : okV x := let ⟨_, _, _, hr, _⟩ := h.get i x hx; hr.2
theorem EInt : ElemInfo Try.prog 3 1 8 := ElemInfo.of (z := .int .i64 0) (by kernel_rfl) rfl rfl rfl
theorem EVal : ElemInfo Try.prog 102 3 32 := ElemInfo.of (z := .agg #[.int .i64 0, .int .i64 0, .string ⟨#[]⟩]) (by kernel_rfl) rfl rfl rfl
/-- Values compared, tuples. -/
def cmpV (a b : VAL) : Int := if a = b then 0 else if a.1 < b.1 ∨ a.1 = b.1 ∧ (a.2.1 < b.2.1 ∨ a.2.1 = b.2.1 ∧ Op.bytesLess a.2.2.data.toList b.2.2.data.toList = true) then -1 else 1
def cmpT : List VAL → List VAL → Int
  | [], [] => 0
  | [], _ :: _ => -1
  | _ :: _, [] => 1
  | a :: l, b :: m => if cmpV a b ≠ 0 then cmpV a b else cmpT l m
theorem eqV (a b : VAL) (w : World) : (Op.equalIn 10000 102 (.agg (encV a).toArray) (.agg (encV b).toArray)).run Try.prog w = .ok (decide (a = b)) w := by
  rw [run_equalIn_struct w 9999 _ _ _ (by simp [Program.fieldsOf, Try.underlying102]) (by kernel_rfl)]
  simp only [Program.fieldsOf, Try.underlying102]
  simp [Op.eqFields, part, encV, Try.isAgg100, Try.isAgg2, Try.isAgg9, run_equalIn_int _ 9998 100 .i64 .i64 _ _ Try.underlying100, run_equalIn_int _ 9998 2 .i64 .i64 _ _ Try.underlying2, run_equalIn_string _ 9998 9 _ _ Try.underlying9, str_eq]
  obtain ⟨a1, a2, a3⟩ := a
  obtain ⟨b1, b2, b3⟩ := b
  by_cases h1 : a1 = b1 <;> by_cases h2 : a2 = b2 <;> by_cases h3 : a3 = b3 <;> simp [h1, h2, h3]
theorem eqV_guard : Try.prog.eqGuardType Try.prog.depth 102 = false := by kernel_rfl
-- f60 "pedigree/pedigreeref01.Compare" params [102, 102] results [3] -> [(ResultVar.tmp 4)] nfree 0 ntmps 43 
set_option maxHeartbeats 4000000 in
set_option maxRecDepth 100000 in
theorem R01Compare_c (a b : VAL) (w : World) : Ret Try.prog 60 #[.agg (encV a).toArray, .agg (encV b).toArray] w fun r w' => r = .int .i64 (cmpV a b) ∧ Keep w w' := by
  refine X.enter Try.func60 rfl Try.ntmps60 rfl ?_
  refine X.seq ?_
  refine X.region ?_
  refine X.opE X.wN rfl (X.boxE rfl rfl) ?_
  rintro _ w1 ⟨rfl, hB1, hk1, hz1⟩
  refine X.opE X.wN rfl (X.boxE rfl rfl) ?_
  rintro _ w2 ⟨rfl, hB2, hk2, hz2⟩
  refine X.opw X.wN rfl (X.assign rfl) ?_
  refine X.opsEnd ?_
  refine X.seq ?_
  refine X.block ?_
  refine X.seq ?_
  refine X.region ?_
  refine X.opw X.wN rfl (X.loadNB Try.isAgg102 Try.sizeOf102 (hB1.keep hk2) rfl rfl rfl) ?_
  refine X.opw X.wN rfl (X.loadNB Try.isAgg102 Try.sizeOf102 hB2 rfl rfl rfl) ?_
  refine X.opw X.wN rfl (X.eqA eqV_guard rfl rfl (eqV a b _)) ?_
  refine X.opw X.wN rfl (X.assign (v := .bool _) rfl) ?_
  refine X.opsEnd ?_
  refine X.condB rfl (fun hc => ?_) (fun hc => ?_)
  · refine X.seq ?_
    refine X.region ?_
    refine X.opw X.wN rfl (X.assign rfl) ?_
    refine X.opsEnd ?_
    refine X.ret1 (v := (.int .i64 _)) Try.func60 Try.results60 rfl ?_
    exact ⟨by congr 1; simp_all [cmpV] <;> omega, (hk1.trans hk2)⟩
  · refine X.seq ?_
    refine X.region ?_
    refine X.opw X.wN rfl (X.fldB (j := 0) Try.underlying102 rfl rfl Try.sizeOf100 rfl) ?_
    refine X.opw X.wN rfl (X.load1B Try.isAgg100 (hB1.keep hk2) rfl rfl) ?_
    refine X.opw X.wN rfl (X.fldB (j := 0) Try.underlying102 rfl rfl Try.sizeOf100 rfl) ?_
    refine X.opw X.wN rfl (X.load1B Try.isAgg100 hB2 rfl rfl) ?_
    refine X.opP X.wN rfl rfl (X.lss rfl rfl) (fun h14 => ?_) (fun h14 => ?_)
    · refine X.opw X.wN rfl (X.move (v := .bool true) rfl) ?_
      refine X.opS rfl rfl rfl rfl rfl ?_
      refine X.opS rfl rfl rfl rfl rfl ?_
      refine X.opS rfl rfl rfl rfl rfl ?_
      refine X.opS rfl rfl rfl rfl rfl ?_
      refine X.opS rfl rfl rfl rfl rfl ?_
      refine X.opS rfl rfl rfl rfl rfl ?_
      refine X.opU rfl rfl rfl rfl ?_
      refine X.opU rfl rfl rfl rfl ?_
      refine X.opU rfl rfl rfl rfl ?_
      refine X.opU rfl rfl rfl rfl ?_
      refine X.opU rfl rfl rfl rfl ?_
      refine X.opU rfl rfl rfl rfl ?_
      refine X.opU rfl rfl rfl rfl ?_
      refine X.opU rfl rfl rfl rfl ?_
      refine X.opU rfl rfl rfl rfl ?_
      refine X.opU rfl rfl rfl rfl ?_
      refine X.opU rfl rfl rfl rfl ?_
      refine X.opU rfl rfl rfl rfl ?_
      refine X.opU rfl rfl rfl rfl ?_
      refine X.opU rfl rfl rfl rfl ?_
      refine X.opU rfl rfl rfl rfl ?_
      refine X.opU rfl rfl rfl rfl ?_
      refine X.opU rfl rfl rfl rfl ?_
      refine X.opU rfl rfl rfl rfl ?_
      refine X.opU rfl rfl rfl rfl ?_
      refine X.opS rfl rfl rfl rfl rfl ?_
      refine X.opw X.wN rfl (X.pickT (v := .bool true) rfl rfl) ?_
      refine X.opw X.wN rfl (X.assign (v := .bool true) rfl) ?_
      refine X.opsEnd ?_
      refine X.condT rfl ?_
      refine X.seq ?_
      refine X.region ?_
      refine X.opw X.wN rfl (X.assign rfl) ?_
      refine X.opsEnd ?_
      refine X.ret1 (v := (.int .i64 _)) Try.func60 Try.results60 rfl ?_
      exact ⟨by congr 1; simp_all [cmpV] <;> omega, (hk1.trans hk2)⟩
    · refine X.opw X.wN rfl (X.move (v := .bool false) rfl) ?_
      refine X.opw (X.wG rfl rfl rfl) rfl (X.fldB (j := 0) Try.underlying102 rfl rfl Try.sizeOf100 rfl) ?_
      refine X.opw (X.wG rfl rfl rfl) rfl (X.load1B Try.isAgg100 (hB1.keep hk2) rfl rfl) ?_
      refine X.opw (X.wG rfl rfl rfl) rfl (X.fldB (j := 0) Try.underlying102 rfl rfl Try.sizeOf100 rfl) ?_
      refine X.opw (X.wG rfl rfl rfl) rfl (X.load1B Try.isAgg100 hB2 rfl rfl) ?_
      refine X.opP (X.wG rfl rfl rfl) rfl rfl (X.eqI rfl rfl) (fun h20 => ?_) (fun h20 => ?_)
      · refine X.opw (X.wG rfl rfl rfl) rfl (X.move (v := .bool true) rfl) ?_
        refine X.opw (X.wG rfl rfl rfl) rfl (X.fldB (j := 1) Try.underlying102 rfl rfl Try.sizeOf2 rfl) ?_
        refine X.opw (X.wG rfl rfl rfl) rfl (X.load1B Try.isAgg2 (hB1.keep hk2) rfl rfl) ?_
        refine X.opw (X.wG rfl rfl rfl) rfl (X.fldB (j := 1) Try.underlying102 rfl rfl Try.sizeOf2 rfl) ?_
        refine X.opw (X.wG rfl rfl rfl) rfl (X.load1B Try.isAgg2 hB2 rfl rfl) ?_
        refine X.opP (X.wG rfl rfl rfl) rfl rfl (X.lss rfl rfl) (fun h26 => ?_) (fun h26 => ?_)
        · refine X.opw (X.wG rfl rfl rfl) rfl (X.move (v := .bool true) rfl) ?_
          refine X.opS rfl rfl rfl rfl rfl ?_
          refine X.opS rfl rfl rfl rfl rfl ?_
          refine X.opS rfl rfl rfl rfl rfl ?_
          refine X.opS rfl rfl rfl rfl rfl ?_
          refine X.opS rfl rfl rfl rfl rfl ?_
          refine X.opS rfl rfl rfl rfl rfl ?_
          refine X.opU rfl rfl rfl rfl ?_
          refine X.opU rfl rfl rfl rfl ?_
          refine X.opU rfl rfl rfl rfl ?_
          refine X.opU rfl rfl rfl rfl ?_
          refine X.opU rfl rfl rfl rfl ?_
          refine X.opS rfl rfl rfl rfl rfl ?_
          refine X.opw (X.wG rfl rfl rfl) rfl (X.pickT (v := .bool true) rfl rfl) ?_
          refine X.opw (X.wG rfl rfl rfl) rfl (X.pickT (v := .bool true) rfl rfl) ?_
          refine X.opw X.wN rfl (X.pickF (v := .bool true) rfl rfl) ?_
          refine X.opw X.wN rfl (X.assign (v := .bool true) rfl) ?_
          refine X.opsEnd ?_
          refine X.condT rfl ?_
          refine X.seq ?_
          refine X.region ?_
          refine X.opw X.wN rfl (X.assign rfl) ?_
          refine X.opsEnd ?_
          refine X.ret1 (v := (.int .i64 _)) Try.func60 Try.results60 rfl ?_
          exact ⟨by congr 1; simp_all [cmpV] <;> omega, (hk1.trans hk2)⟩
        · refine X.opw (X.wG rfl rfl rfl) rfl (X.move (v := .bool false) rfl) ?_
          refine X.opw (X.wG rfl rfl rfl) rfl (X.fldB (j := 1) Try.underlying102 rfl rfl Try.sizeOf2 rfl) ?_
          refine X.opw (X.wG rfl rfl rfl) rfl (X.load1B Try.isAgg2 (hB1.keep hk2) rfl rfl) ?_
          refine X.opw (X.wG rfl rfl rfl) rfl (X.fldB (j := 1) Try.underlying102 rfl rfl Try.sizeOf2 rfl) ?_
          refine X.opw (X.wG rfl rfl rfl) rfl (X.load1B Try.isAgg2 hB2 rfl rfl) ?_
          refine X.opP (X.wG rfl rfl rfl) rfl rfl (X.eqI rfl rfl) (fun h32 => ?_) (fun h32 => ?_)
          · refine X.opw (X.wG rfl rfl rfl) rfl (X.move (v := .bool true) rfl) ?_
            refine X.opw (X.wG rfl rfl rfl) rfl (X.fldB (j := 2) Try.underlying102 rfl rfl Try.sizeOf9 rfl) ?_
            refine X.opw (X.wG rfl rfl rfl) rfl (X.load1B Try.isAgg9 (hB1.keep hk2) rfl rfl) ?_
            refine X.opw (X.wG rfl rfl rfl) rfl (X.fldB (j := 2) Try.underlying102 rfl rfl Try.sizeOf9 rfl) ?_
            refine X.opw (X.wG rfl rfl rfl) rfl (X.load1B Try.isAgg9 hB2 rfl rfl) ?_
            refine X.opB (X.wG rfl rfl rfl) rfl rfl (X.ltD rfl rfl) (fun h38 => ?_) (fun h38 => ?_)
            · refine X.opw (X.wG rfl rfl rfl) rfl (X.pickT (v := .bool true) rfl rfl) ?_
              refine X.opw (X.wG rfl rfl rfl) rfl (X.pickF (v := .bool true) rfl rfl) ?_
              refine X.opw (X.wG rfl rfl rfl) rfl (X.pickT (v := .bool true) rfl rfl) ?_
              refine X.opw X.wN rfl (X.pickF (v := .bool true) rfl rfl) ?_
              refine X.opw X.wN rfl (X.assign (v := .bool true) rfl) ?_
              refine X.opsEnd ?_
              refine X.condT rfl ?_
              refine X.seq ?_
              refine X.region ?_
              refine X.opw X.wN rfl (X.assign rfl) ?_
              refine X.opsEnd ?_
              refine X.ret1 (v := (.int .i64 _)) Try.func60 Try.results60 rfl ?_
              exact ⟨by congr 1; simp_all [cmpV] <;> omega, (hk1.trans hk2)⟩
            · refine X.opw (X.wG rfl rfl rfl) rfl (X.pickT (v := .bool false) rfl rfl) ?_
              refine X.opw (X.wG rfl rfl rfl) rfl (X.pickF (v := .bool false) rfl rfl) ?_
              refine X.opw (X.wG rfl rfl rfl) rfl (X.pickT (v := .bool false) rfl rfl) ?_
              refine X.opw X.wN rfl (X.pickF (v := .bool false) rfl rfl) ?_
              refine X.opw X.wN rfl (X.assign (v := .bool false) rfl) ?_
              refine X.opsEnd ?_
              refine X.condF rfl ?_
              refine X.skip ?_
              refine X.inBlock ?_
              refine X.seq ?_
              refine X.region ?_
              refine X.opw X.wN rfl (X.assign rfl) ?_
              refine X.opsEnd ?_
              refine X.ret1 (v := (.int .i64 _)) Try.func60 Try.results60 rfl ?_
              exact ⟨by congr 1; simp_all [cmpV] <;> omega, (hk1.trans hk2)⟩
          · refine X.opw (X.wG rfl rfl rfl) rfl (X.move (v := .bool false) rfl) ?_
            refine X.opS rfl rfl rfl rfl rfl ?_
            refine X.opS rfl rfl rfl rfl rfl ?_
            refine X.opS rfl rfl rfl rfl rfl ?_
            refine X.opS rfl rfl rfl rfl rfl ?_
            refine X.opS rfl rfl rfl rfl rfl ?_
            refine X.opw (X.wG rfl rfl rfl) rfl (X.pickF (v := .bool false) rfl rfl) ?_
            refine X.opw (X.wG rfl rfl rfl) rfl (X.pickF (v := .bool false) rfl rfl) ?_
            refine X.opw (X.wG rfl rfl rfl) rfl (X.pickT (v := .bool false) rfl rfl) ?_
            refine X.opw X.wN rfl (X.pickF (v := .bool false) rfl rfl) ?_
            refine X.opw X.wN rfl (X.assign (v := .bool false) rfl) ?_
            refine X.opsEnd ?_
            refine X.condF rfl ?_
            refine X.skip ?_
            refine X.inBlock ?_
            refine X.seq ?_
            refine X.region ?_
            refine X.opw X.wN rfl (X.assign rfl) ?_
            refine X.opsEnd ?_
            refine X.ret1 (v := (.int .i64 _)) Try.func60 Try.results60 rfl ?_
            exact ⟨by congr 1; simp_all [cmpV] <;> omega, (hk1.trans hk2)⟩
      · refine X.opw (X.wG rfl rfl rfl) rfl (X.move (v := .bool false) rfl) ?_
        refine X.opS rfl rfl rfl rfl rfl ?_
        refine X.opS rfl rfl rfl rfl rfl ?_
        refine X.opS rfl rfl rfl rfl rfl ?_
        refine X.opS rfl rfl rfl rfl rfl ?_
        refine X.opS rfl rfl rfl rfl rfl ?_
        refine X.opS rfl rfl rfl rfl rfl ?_
        refine X.opU rfl rfl rfl rfl ?_
        refine X.opU rfl rfl rfl rfl ?_
        refine X.opU rfl rfl rfl rfl ?_
        refine X.opU rfl rfl rfl rfl ?_
        refine X.opU rfl rfl rfl rfl ?_
        refine X.opU rfl rfl rfl rfl ?_
        refine X.opU rfl rfl rfl rfl ?_
        refine X.opU rfl rfl rfl rfl ?_
        refine X.opU rfl rfl rfl rfl ?_
        refine X.opU rfl rfl rfl rfl ?_
        refine X.opU rfl rfl rfl rfl ?_
        refine X.opU rfl rfl rfl rfl ?_
        refine X.opS rfl rfl rfl rfl rfl ?_
        refine X.opw (X.wG rfl rfl rfl) rfl (X.pickF (v := .bool false) rfl rfl) ?_
        refine X.opw X.wN rfl (X.pickF (v := .bool false) rfl rfl) ?_
        refine X.opw X.wN rfl (X.assign (v := .bool false) rfl) ?_
        refine X.opsEnd ?_
        refine X.condF rfl ?_
        refine X.skip ?_
        refine X.inBlock ?_
        refine X.seq ?_
        refine X.region ?_
        refine X.opw X.wN rfl (X.assign rfl) ?_
        refine X.opsEnd ?_
        refine X.ret1 (v := (.int .i64 _)) Try.func60 Try.results60 rfl ?_
        exact ⟨by congr 1; simp_all [cmpV] <;> omega, (hk1.trans hk2)⟩
theorem cmp_end {l1 l2 : List VAL} {i : Nat} (h1 : i ≤ l1.length) (h2 : i ≤ l2.length) (h : i = l1.length ∨ i = l2.length) : cmpT (l1.drop i) (l2.drop i) = if l1.length < l2.length then -1 else if l2.length < l1.length then 1 else 0 := by
  have e1 : (l1.drop i).length = l1.length - i := List.length_drop
  have e2 : (l2.drop i).length = l2.length - i := List.length_drop
  generalize l1.drop i = x at *
  generalize l2.drop i = y at *
  cases x <;> cases y <;> simp only [List.length_cons, List.length_nil] at e1 e2 <;> unfold cmpT
  · rw [if_neg (by omega), if_neg (by omega)]
  · rw [if_pos (by omega)]
  · rw [if_neg (by omega), if_pos (by omega)]
  · omega
-- f43 "pedigree/pedigreeref02.Compare" params [68, 68] results [3] -> [(ResultVar.tmp 4)] nfree 0 ntmps 43 na
set_option maxHeartbeats 4000000 in
set_option maxRecDepth 100000 in
theorem R02Compare_c {lo1 hi1 lo2 hi2 : Nat} {A1 A2 : Option Addr} {n1 n2 c1 c2 : Nat} {l1 l2 : List VAL} (w : World) (hs1 : Sl KV lo1 hi1 w A1 n1 l1) (hs2 : Sl KV lo2 hi2 w A2 n2 l2) : Ret Try.prog 43 #[.slice A1 n1 c1, .slice A2 n2 c2] w fun r w' => r = .int .i64 (cmpT l1 l2) ∧ Keep w w' := by
  have hn1 := hs1.bound
  have hl1 := hs1.len
  have hn2 := hs2.bound
  have hl2 := hs2.len
  refine X.enter Try.func43 rfl Try.ntmps43 rfl ?_
  refine X.seq ?_
  refine X.region ?_
  refine X.opw X.wN rfl (X.assign rfl) ?_
  refine X.opsEnd ?_
  refine X.seq ?_
  refine X.seq ?_
  refine X.region ?_
  refine X.opw X.wN rfl (X.assign rfl) ?_
  refine X.opsEnd ?_
  refine X.block ?_
  -- LOOP live: 0=a, 1=b, 5=i*
  refine X.loopL (σ := Nat) (fun s => [(0, .slice A1 n1 c1), (1, .slice A2 n2 c2), (5, .int .i64 (s : Int))]) (fun s w' => s ≤ n1 ∧ s ≤ n2 ∧ cmpT (l1.drop s) (l2.drop s) = cmpT l1 l2 ∧ Keep w w') (fun s => n1 - s) 0 ⟨rfl, rfl, rfl, trivial⟩ ⟨Nat.zero_le _, Nat.zero_le _, rfl, (Keep.refl _)⟩ ?_
  rintro i b w1 ⟨hi1, hi2, hcm, hk⟩ hback
  have hk' := hk.size
  refine X.seq ?_
  refine X.seq ?_
  refine X.region ?_
  refine X.opw X.wN rfl (X.move (v := .int .i64 _) rfl) ?_
  refine X.opw X.wN rfl (X.move (v := .slice _ _ _) rfl) ?_
  refine X.opw X.wN rfl (X.lenSl Try.underlying68 rfl) ?_
  refine X.opP X.wN rfl rfl (X.lss rfl rfl) (fun h10 => ?_) (fun h10 => ?_)
  · refine X.opw X.wN rfl (X.move (v := .bool true) rfl) ?_
    refine X.opw (X.wG rfl rfl rfl) rfl (X.move (v := .int .i64 _) rfl) ?_
    refine X.opw (X.wG rfl rfl rfl) rfl (X.move (v := .slice _ _ _) rfl) ?_
    refine X.opw (X.wG rfl rfl rfl) rfl (X.lenSl Try.underlying68 rfl) ?_
    refine X.opP (X.wG rfl rfl rfl) rfl rfl (X.lss rfl rfl) (fun h15 => ?_) (fun h15 => ?_)
    · obtain ⟨x, hx⟩ := getN i hl1 h10
      obtain ⟨y, hy⟩ := getN i hl2 h15
      rw [drop_at hx, drop_at hy, cmpT] at hcm
      refine X.opw X.wN rfl (X.pickT (v := .bool true) rfl rfl) ?_
      refine X.opsEnd ?_
      refine X.condT rfl ?_
      refine X.skip ?_
      refine X.seq ?_
      refine X.block ?_
      refine X.seq ?_
      refine X.regionD (fun _ => False) 9 (by kernel_rfl) (by kernel_rfl) (fun w1 hk1 hz1 => ?_)
      refine X.dTake 0 rfl (by kernel_rfl) (by kernel_rfl) (by kernel_rfl) (X.dwN rfl) (fun w' hk' => X.move (v := .slice _ _ _) rfl) ?_
      refine X.dTake 1 rfl (by kernel_rfl) (by kernel_rfl) (by kernel_rfl) (X.dwN rfl) (fun w' hk' => X.move (v := .int .i64 _) rfl) ?_
      refine X.dTake 2 rfl (by kernel_rfl) (by kernel_rfl) (by kernel_rfl) (X.dwN rfl) (fun w' hk' => X.idxS (hs1.keep ((hk.trans hk1).trans hk')) Try.underlying68 Try.sizeOf102 rfl rfl ⟨by omega, by omega⟩) ?_
      refine X.dTake 3 rfl (by kernel_rfl) (by kernel_rfl) (by kernel_rfl) (X.dwN rfl) (fun w' hk' => X.loadSN Try.isAgg102 Try.sizeOf102 (hs1.keep ((hk.trans hk1).trans hk')) hx rfl (fun _ h => h.1) rfl) ?_
      refine X.dTake 4 rfl (by kernel_rfl) (by kernel_rfl) (by kernel_rfl) (X.dwN rfl) (fun w' hk' => X.move (v := .slice _ _ _) rfl) ?_
      refine X.dTake 5 rfl (by kernel_rfl) (by kernel_rfl) (by kernel_rfl) (X.dwN rfl) (fun w' hk' => X.move (v := .int .i64 _) rfl) ?_
      refine X.dTake 6 rfl (by kernel_rfl) (by kernel_rfl) (by kernel_rfl) (X.dwN rfl) (fun w' hk' => X.idxS (hs2.keep ((hk.trans hk1).trans hk')) Try.underlying68 Try.sizeOf102 rfl rfl ⟨by omega, by omega⟩) ?_
      refine X.dTake 7 rfl (by kernel_rfl) (by kernel_rfl) (by kernel_rfl) (X.dwN rfl) (fun w' hk' => X.loadSN Try.isAgg102 Try.sizeOf102 (hs2.keep ((hk.trans hk1).trans hk')) hy rfl (fun _ h => h.1) rfl) ?_
      refine X.dE (i := 8) (by kernel_rfl) rfl (X.dwN rfl) (X.callE (R01Compare_c x y _) Try.call60 rfl rfl) (by rintro _ w2 ⟨rfl, hk2⟩ _; exact hk2.mono (fun _ _ h => h.elim)) ?_
      rintro _ w2 ⟨rfl, hk2⟩
      have hk2' := hk2.size
      refine X.dStep (i := 9) (by kernel_rfl) rfl (X.dwN rfl) (X.assign (v := .int .i64 _) rfl) (fun h => absurd h (by decide)) ?_
      refine X.dEnd (by kernel_rfl) ?_
      refine X.seq ?_
      refine X.region ?_
      refine X.opw X.wN rfl (X.move (v := .int .i64 _) rfl) ?_
      refine X.opP X.wN rfl rfl (X.neI rfl rfl) (fun h29 => ?_) (fun h29 => ?_)
      · refine X.opsEnd ?_
        refine X.condT rfl ?_
        refine X.seq ?_
        refine X.region ?_
        refine X.opw X.wN rfl (X.move (v := .int .i64 _) rfl) ?_
        refine X.opw X.wN rfl (X.assign (v := .int .i64 _) rfl) ?_
        refine X.opsEnd ?_
        refine X.ret1 (v := (.int .i64 _)) Try.func43 Try.results43 rfl ?_
        exact ⟨by rw [if_pos h29] at hcm; rw [hcm], ((hk.trans hk1).trans hk2)⟩
      · refine X.opsEnd ?_
        refine X.condF rfl ?_
        refine X.skip ?_
        refine X.inBlock ?_
        refine X.region ?_
        refine X.opw X.wN rfl (X.move (v := .int .i64 _) rfl) ?_
        refine X.opw X.wN rfl (X.add rfl rfl (X.w_i64 (by omega))) ?_
        refine X.opw X.wN rfl (X.assign (v := .int .i64 _) rfl) ?_
        refine X.opsEnd ?_
        refine hback (i + 1) _ _ ⟨rfl, rfl, rfl, trivial⟩ ⟨by omega, by omega, by rw [if_neg h29] at hcm; exact hcm, ((hk.trans hk1).trans hk2)⟩ (by omega)
    · refine X.opw X.wN rfl (X.pickT (v := .bool false) rfl rfl) ?_
      refine X.opsEnd ?_
      refine X.condF rfl ?_
      refine X.exit rfl ?_
      refine X.seq ?_
      refine X.block ?_
      refine X.seq ?_
      refine X.region ?_
      refine X.opw X.wN rfl (X.move (v := .slice _ _ _) rfl) ?_
      refine X.opw X.wN rfl (X.lenSl Try.underlying68 rfl) ?_
      refine X.opw X.wN rfl (X.move (v := .slice _ _ _) rfl) ?_
      refine X.opw X.wN rfl (X.lenSl Try.underlying68 rfl) ?_
      refine X.opP X.wN rfl rfl (X.lss rfl rfl) (fun h36 => ?_) (fun h36 => ?_)
      · refine X.opw X.wN rfl (X.assign (v := .bool true) rfl) ?_
        refine X.opsEnd ?_
        refine X.condT rfl ?_
        refine X.seq ?_
        refine X.region ?_
        refine X.opw X.wN rfl (X.assign rfl) ?_
        refine X.opsEnd ?_
        refine X.ret1 (v := (.int .i64 _)) Try.func43 Try.results43 rfl ?_
        exact ⟨by congr 1; rw [← hcm, cmp_end (by omega) (by omega) (by omega)]; (repeat' split) <;> omega, hk⟩
      · refine X.opw X.wN rfl (X.assign (v := .bool false) rfl) ?_
        refine X.opsEnd ?_
        refine X.condF rfl ?_
        refine X.seq ?_
        refine X.region ?_
        refine X.opw X.wN rfl (X.move (v := .slice _ _ _) rfl) ?_
        refine X.opw X.wN rfl (X.lenSl Try.underlying68 rfl) ?_
        refine X.opw X.wN rfl (X.move (v := .slice _ _ _) rfl) ?_
        refine X.opw X.wN rfl (X.lenSl Try.underlying68 rfl) ?_
        refine X.opP X.wN rfl rfl (X.gtr rfl rfl) (fun h42 => ?_) (fun h42 => ?_)
        · refine X.opw X.wN rfl (X.assign (v := .bool true) rfl) ?_
          refine X.opsEnd ?_
          refine X.condT rfl ?_
          refine X.seq ?_
          refine X.region ?_
          refine X.opw X.wN rfl (X.assign rfl) ?_
          refine X.opsEnd ?_
          refine X.ret1 (v := (.int .i64 _)) Try.func43 Try.results43 rfl ?_
          exact ⟨by congr 1; rw [← hcm, cmp_end (by omega) (by omega) (by omega)]; (repeat' split) <;> omega, hk⟩
        · refine X.opw X.wN rfl (X.assign (v := .bool false) rfl) ?_
          refine X.opsEnd ?_
          refine X.condF rfl ?_
          refine X.skip ?_
          refine X.inBlock ?_
          refine X.seq ?_
          refine X.region ?_
          refine X.opw X.wN rfl (X.assign rfl) ?_
          refine X.opsEnd ?_
          refine X.ret1 (v := (.int .i64 _)) Try.func43 Try.results43 rfl ?_
          exact ⟨by congr 1; rw [← hcm, cmp_end (by omega) (by omega) (by omega)]; (repeat' split) <;> omega, hk⟩
  · refine X.opw X.wN rfl (X.move (v := .bool false) rfl) ?_
    refine X.opS rfl rfl rfl rfl rfl ?_
    refine X.opS rfl rfl rfl rfl rfl ?_
    refine X.opS rfl rfl rfl rfl rfl ?_
    refine X.opS rfl rfl rfl rfl rfl ?_
    refine X.opw X.wN rfl (X.pickF (v := .bool false) rfl rfl) ?_
    refine X.opsEnd ?_
    refine X.condF rfl ?_
    refine X.exit rfl ?_
    refine X.seq ?_
    refine X.block ?_
    refine X.seq ?_
    refine X.region ?_
    refine X.opw X.wN rfl (X.move (v := .slice _ _ _) rfl) ?_
    refine X.opw X.wN rfl (X.lenSl Try.underlying68 rfl) ?_
    refine X.opw X.wN rfl (X.move (v := .slice _ _ _) rfl) ?_
    refine X.opw X.wN rfl (X.lenSl Try.underlying68 rfl) ?_
    refine X.opP X.wN rfl rfl (X.lss rfl rfl) (fun h36 => ?_) (fun h36 => ?_)
    · refine X.opw X.wN rfl (X.assign (v := .bool true) rfl) ?_
      refine X.opsEnd ?_
      refine X.condT rfl ?_
      refine X.seq ?_
      refine X.region ?_
      refine X.opw X.wN rfl (X.assign rfl) ?_
      refine X.opsEnd ?_
      refine X.ret1 (v := (.int .i64 _)) Try.func43 Try.results43 rfl ?_
      exact ⟨by congr 1; rw [← hcm, cmp_end (by omega) (by omega) (by omega)]; (repeat' split) <;> omega, hk⟩
    · refine X.opw X.wN rfl (X.assign (v := .bool false) rfl) ?_
      refine X.opsEnd ?_
      refine X.condF rfl ?_
      refine X.seq ?_
      refine X.region ?_
      refine X.opw X.wN rfl (X.move (v := .slice _ _ _) rfl) ?_
      refine X.opw X.wN rfl (X.lenSl Try.underlying68 rfl) ?_
      refine X.opw X.wN rfl (X.move (v := .slice _ _ _) rfl) ?_
      refine X.opw X.wN rfl (X.lenSl Try.underlying68 rfl) ?_
      refine X.opP X.wN rfl rfl (X.gtr rfl rfl) (fun h42 => ?_) (fun h42 => ?_)
      · refine X.opw X.wN rfl (X.assign (v := .bool true) rfl) ?_
        refine X.opsEnd ?_
        refine X.condT rfl ?_
        refine X.seq ?_
        refine X.region ?_
        refine X.opw X.wN rfl (X.assign rfl) ?_
        refine X.opsEnd ?_
        refine X.ret1 (v := (.int .i64 _)) Try.func43 Try.results43 rfl ?_
        exact ⟨by congr 1; rw [← hcm, cmp_end (by omega) (by omega) (by omega)]; (repeat' split) <;> omega, hk⟩
      · refine X.opw X.wN rfl (X.assign (v := .bool false) rfl) ?_
        refine X.opsEnd ?_
        refine X.condF rfl ?_
        refine X.skip ?_
        refine X.inBlock ?_
        refine X.seq ?_
        refine X.region ?_
        refine X.opw X.wN rfl (X.assign rfl) ?_
        refine X.opsEnd ?_
        refine X.ret1 (v := (.int .i64 _)) Try.func43 Try.results43 rfl ?_
        exact ⟨by congr 1; rw [← hcm, cmp_end (by omega) (by omega) (by omega)]; (repeat' split) <;> omega, hk⟩
-- f80 "cmp.isNaN[pedigree/api.VKind]" params [100] results [4] -> [(ResultVar.tmp 2)] nfree 0 ntmps 6 names [
set_option maxHeartbeats 4000000 in
set_option maxRecDepth 100000 in
theorem isNaNKind_c (a : Int) (w : World) : Ret Try.prog 80 #[.int .i64 a] w fun r w' => r = .bool false ∧ Keep w w' := by
  refine X.enter Try.func80 rfl Try.ntmps80 rfl ?_
  refine X.seq ?_
  refine X.region ?_
  refine X.opw X.wN rfl (X.assign rfl) ?_
  refine X.opsEnd ?_
  refine X.seq ?_
  refine X.region ?_
  refine X.opw X.wN rfl (X.move (v := .int .i64 _) rfl) ?_
  refine X.opw X.wN rfl (X.move (v := .int .i64 _) rfl) ?_
  refine X.opw X.wN rfl (X.neI rfl rfl) ?_
  refine X.opw X.wN rfl (X.assign (v := .bool _) rfl) ?_
  refine X.opsEnd ?_
  refine X.ret1 (v := (.bool _)) Try.func80 Try.results80 rfl ?_
  exact ⟨by simp, (Keep.refl _)⟩
-- f81 "cmp.isNaN[int64]" params [2] results [4] -> [(ResultVar.tmp 2)] nfree 0 ntmps 6 names ["x", "x", "", "
set_option maxHeartbeats 4000000 in
set_option maxRecDepth 100000 in
theorem isNaNNum_c (a : Int) (w : World) : Ret Try.prog 81 #[.int .i64 a] w fun r w' => r = .bool false ∧ Keep w w' := by
  refine X.enter Try.func81 rfl Try.ntmps81 rfl ?_
  refine X.seq ?_
  refine X.region ?_
  refine X.opw X.wN rfl (X.assign rfl) ?_
  refine X.opsEnd ?_
  refine X.seq ?_
  refine X.region ?_
  refine X.opw X.wN rfl (X.move (v := .int .i64 _) rfl) ?_
  refine X.opw X.wN rfl (X.move (v := .int .i64 _) rfl) ?_
  refine X.opw X.wN rfl (X.neI rfl rfl) ?_
  refine X.opw X.wN rfl (X.assign (v := .bool _) rfl) ?_
  refine X.opsEnd ?_
  refine X.ret1 (v := (.bool _)) Try.func81 Try.results81 rfl ?_
  exact ⟨by simp, (Keep.refl _)⟩
-- f82 "cmp.isNaN[string]" params [9] results [4] -> [(ResultVar.tmp 2)] nfree 0 ntmps 6 names ["x", "x", "", 
set_option maxHeartbeats 4000000 in
set_option maxRecDepth 100000 in
theorem isNaNStr_c (a : ByteArray) (w : World) : Ret Try.prog 82 #[.string a] w fun r w' => r = .bool false ∧ Keep w w' := by
  refine X.enter Try.func82 rfl Try.ntmps82 rfl ?_
  refine X.seq ?_
  refine X.region ?_
  refine X.opw X.wN rfl (X.assign rfl) ?_
  refine X.opsEnd ?_
  refine X.seq ?_
  refine X.region ?_
  refine X.opw X.wN rfl (X.move (v := .string _) rfl) ?_
  refine X.opw X.wN rfl (X.move (v := .string _) rfl) ?_
  refine X.opw X.wN rfl (X.neD rfl rfl) ?_
  refine X.opw X.wN rfl (X.assign (v := .bool _) rfl) ?_
  refine X.opsEnd ?_
  refine X.ret1 (v := (.bool _)) Try.func82 Try.results82 rfl ?_
  exact ⟨by simp, (Keep.refl _)⟩
def cmp3 (a b : Int) : Int := if a < b then -1 else if b < a then 1 else 0
def cmpS (a b : ByteArray) : Int := if Op.bytesLess a.data.toList b.data.toList then -1 else if Op.bytesLess b.data.toList a.data.toList then 1 else 0
def orI : List Int → Int
  | [] => 0
  | x :: l => if x ≠ 0 then x else orI l
theorem cmp3_ok (a b : Int) : okI (cmp3 a b) := by unfold cmp3 okI; (repeat' split) <;> omega
theorem cmpS_ok (a b : ByteArray) : okI (cmpS a b) := by unfold cmpS okI; (repeat' split) <;> omega
-- f77 "cmp.Compare[pedigree/api.VKind]" params [100, 100] results [3] -> [(ResultVar.tmp 4)] nfree 0 ntmps 20
set_option maxHeartbeats 4000000 in
set_option maxRecDepth 100000 in
theorem cmpKind_c (a b : Int) (w : World) : Ret Try.prog 77 #[.int .i64 a, .int .i64 b] w fun r w' => r = .int .i64 (cmp3 a b) ∧ Keep w w' := by
  refine X.enter Try.func77 rfl Try.ntmps77 rfl ?_
  refine X.seq ?_
  refine X.region ?_
  refine X.opw X.wN rfl (X.assign rfl) ?_
  refine X.opsEnd ?_
  refine X.seq ?_
  refine X.region ?_
  refine X.opw X.wN rfl (X.move (v := .int .i64 _) rfl) ?_
  refine X.opE X.wN rfl (X.callE (isNaNKind_c _ _) Try.call80 rfl rfl) ?_
  rintro _ w1 ⟨rfl, hk1⟩
  have hk1' := hk1.size
  refine X.opw X.wN rfl (X.assign (v := .bool _) rfl) ?_
  refine X.opsEnd ?_
  refine X.seq ?_
  refine X.region ?_
  refine X.opw X.wN rfl (X.move (v := .int .i64 _) rfl) ?_
  refine X.opE X.wN rfl (X.callE (isNaNKind_c _ _) Try.call80 rfl rfl) ?_
  rintro _ w2 ⟨rfl, hk2⟩
  have hk2' := hk2.size
  refine X.opw X.wN rfl (X.assign (v := .bool _) rfl) ?_
  refine X.opsEnd ?_
  refine X.seq ?_
  refine X.seq ?_
  refine X.region ?_
  refine X.opw X.wN rfl (X.move (v := .bool _) rfl) ?_
  refine X.opsEnd ?_
  refine X.condB rfl (fun hc => ?_) (fun hc => ?_)
  · cases hc
  · refine X.skip ?_
    refine X.seq ?_
    refine X.seq ?_
    refine X.region ?_
    refine X.opw X.wN rfl (X.move (v := .bool _) rfl) ?_
    refine X.opsEnd ?_
    refine X.condB rfl (fun hd => ?_) (fun hd => ?_)
    · cases hd
    · refine X.skip ?_
      refine X.seq ?_
      refine X.seq ?_
      refine X.region ?_
      refine X.opw X.wN rfl (X.move (v := .int .i64 _) rfl) ?_
      refine X.opw X.wN rfl (X.move (v := .int .i64 _) rfl) ?_
      refine X.opP X.wN rfl rfl (X.lss rfl rfl) (fun h16 => ?_) (fun h16 => ?_)
      · refine X.opsEnd ?_
        refine X.condT rfl ?_
        refine X.seq ?_
        refine X.region ?_
        refine X.opw X.wN rfl (X.assign rfl) ?_
        refine X.opsEnd ?_
        refine X.ret1 (v := (.int .i64 _)) Try.func77 Try.results77 rfl ?_
        exact ⟨by congr 1; unfold cmp3; (repeat' split) <;> omega, (hk1.trans hk2)⟩
      · refine X.opsEnd ?_
        refine X.condF rfl ?_
        refine X.skip ?_
        refine X.seq ?_
        refine X.seq ?_
        refine X.region ?_
        refine X.opw X.wN rfl (X.move (v := .int .i64 _) rfl) ?_
        refine X.opw X.wN rfl (X.move (v := .int .i64 _) rfl) ?_
        refine X.opP X.wN rfl rfl (X.gtr rfl rfl) (fun h19 => ?_) (fun h19 => ?_)
        · refine X.opsEnd ?_
          refine X.condT rfl ?_
          refine X.seq ?_
          refine X.region ?_
          refine X.opw X.wN rfl (X.assign rfl) ?_
          refine X.opsEnd ?_
          refine X.ret1 (v := (.int .i64 _)) Try.func77 Try.results77 rfl ?_
          exact ⟨by congr 1; unfold cmp3; (repeat' split) <;> omega, (hk1.trans hk2)⟩
        · refine X.opsEnd ?_
          refine X.condF rfl ?_
          refine X.skip ?_
          refine X.seq ?_
          refine X.region ?_
          refine X.opw X.wN rfl (X.assign rfl) ?_
          refine X.opsEnd ?_
          refine X.ret1 (v := (.int .i64 _)) Try.func77 Try.results77 rfl ?_
          exact ⟨by congr 1; unfold cmp3; (repeat' split) <;> omega, (hk1.trans hk2)⟩
-- f78 "cmp.Compare[int64]" params [2, 2] results [3] -> [(ResultVar.tmp 4)] nfree 0 ntmps 20 names ["x", "y",
set_option maxHeartbeats 4000000 in
set_option maxRecDepth 100000 in
theorem cmpNum_c (a b : Int) (w : World) : Ret Try.prog 78 #[.int .i64 a, .int .i64 b] w fun r w' => r = .int .i64 (cmp3 a b) ∧ Keep w w' := by
  refine X.enter Try.func78 rfl Try.ntmps78 rfl ?_
  refine X.seq ?_
  refine X.region ?_
  refine X.opw X.wN rfl (X.assign rfl) ?_
  refine X.opsEnd ?_
  refine X.seq ?_
  refine X.region ?_
  refine X.opw X.wN rfl (X.move (v := .int .i64 _) rfl) ?_
  refine X.opE X.wN rfl (X.callE (isNaNNum_c _ _) Try.call81 rfl rfl) ?_
  rintro _ w1 ⟨rfl, hk1⟩
  have hk1' := hk1.size
  refine X.opw X.wN rfl (X.assign (v := .bool _) rfl) ?_
  refine X.opsEnd ?_
  refine X.seq ?_
  refine X.region ?_
  refine X.opw X.wN rfl (X.move (v := .int .i64 _) rfl) ?_
  refine X.opE X.wN rfl (X.callE (isNaNNum_c _ _) Try.call81 rfl rfl) ?_
  rintro _ w2 ⟨rfl, hk2⟩
  have hk2' := hk2.size
  refine X.opw X.wN rfl (X.assign (v := .bool _) rfl) ?_
  refine X.opsEnd ?_
  refine X.seq ?_
  refine X.seq ?_
  refine X.region ?_
  refine X.opw X.wN rfl (X.move (v := .bool _) rfl) ?_
  refine X.opsEnd ?_
  refine X.condB rfl (fun hc => ?_) (fun hc => ?_)
  · cases hc
  · refine X.skip ?_
    refine X.seq ?_
    refine X.seq ?_
    refine X.region ?_
    refine X.opw X.wN rfl (X.move (v := .bool _) rfl) ?_
    refine X.opsEnd ?_
    refine X.condB rfl (fun hd => ?_) (fun hd => ?_)
    · cases hd
    · refine X.skip ?_
      refine X.seq ?_
      refine X.seq ?_
      refine X.region ?_
      refine X.opw X.wN rfl (X.move (v := .int .i64 _) rfl) ?_
      refine X.opw X.wN rfl (X.move (v := .int .i64 _) rfl) ?_
      refine X.opP X.wN rfl rfl (X.lss rfl rfl) (fun h16 => ?_) (fun h16 => ?_)
      · refine X.opsEnd ?_
        refine X.condT rfl ?_
        refine X.seq ?_
        refine X.region ?_
        refine X.opw X.wN rfl (X.assign rfl) ?_
        refine X.opsEnd ?_
        refine X.ret1 (v := (.int .i64 _)) Try.func78 Try.results78 rfl ?_
        exact ⟨by congr 1; unfold cmp3; (repeat' split) <;> omega, (hk1.trans hk2)⟩
      · refine X.opsEnd ?_
        refine X.condF rfl ?_
        refine X.skip ?_
        refine X.seq ?_
        refine X.seq ?_
        refine X.region ?_
        refine X.opw X.wN rfl (X.move (v := .int .i64 _) rfl) ?_
        refine X.opw X.wN rfl (X.move (v := .int .i64 _) rfl) ?_
        refine X.opP X.wN rfl rfl (X.gtr rfl rfl) (fun h19 => ?_) (fun h19 => ?_)
        · refine X.opsEnd ?_
          refine X.condT rfl ?_
          refine X.seq ?_
          refine X.region ?_
          refine X.opw X.wN rfl (X.assign rfl) ?_
          refine X.opsEnd ?_
          refine X.ret1 (v := (.int .i64 _)) Try.func78 Try.results78 rfl ?_
          exact ⟨by congr 1; unfold cmp3; (repeat' split) <;> omega, (hk1.trans hk2)⟩
        · refine X.opsEnd ?_
          refine X.condF rfl ?_
          refine X.skip ?_
          refine X.seq ?_
          refine X.region ?_
          refine X.opw X.wN rfl (X.assign rfl) ?_
          refine X.opsEnd ?_
          refine X.ret1 (v := (.int .i64 _)) Try.func78 Try.results78 rfl ?_
          exact ⟨by congr 1; unfold cmp3; (repeat' split) <;> omega, (hk1.trans hk2)⟩
-- f79 "cmp.Compare[string]" params [9, 9] results [3] -> [(ResultVar.tmp 4)] nfree 0 ntmps 20 names ["x", "y"
set_option maxHeartbeats 4000000 in
set_option maxRecDepth 100000 in
theorem cmpStr_c (a b : ByteArray) (w : World) : Ret Try.prog 79 #[.string a, .string b] w fun r w' => r = .int .i64 (cmpS a b) ∧ Keep w w' := by
  refine X.enter Try.func79 rfl Try.ntmps79 rfl ?_
  refine X.seq ?_
  refine X.region ?_
  refine X.opw X.wN rfl (X.assign rfl) ?_
  refine X.opsEnd ?_
  refine X.seq ?_
  refine X.region ?_
  refine X.opw X.wN rfl (X.move (v := .string _) rfl) ?_
  refine X.opE X.wN rfl (X.callE (isNaNStr_c _ _) Try.call82 rfl rfl) ?_
  rintro _ w1 ⟨rfl, hk1⟩
  have hk1' := hk1.size
  refine X.opw X.wN rfl (X.assign (v := .bool _) rfl) ?_
  refine X.opsEnd ?_
  refine X.seq ?_
  refine X.region ?_
  refine X.opw X.wN rfl (X.move (v := .string _) rfl) ?_
  refine X.opE X.wN rfl (X.callE (isNaNStr_c _ _) Try.call82 rfl rfl) ?_
  rintro _ w2 ⟨rfl, hk2⟩
  have hk2' := hk2.size
  refine X.opw X.wN rfl (X.assign (v := .bool _) rfl) ?_
  refine X.opsEnd ?_
  refine X.seq ?_
  refine X.seq ?_
  refine X.region ?_
  refine X.opw X.wN rfl (X.move (v := .bool _) rfl) ?_
  refine X.opsEnd ?_
  refine X.condB rfl (fun hc => ?_) (fun hc => ?_)
  · cases hc
  · refine X.skip ?_
    refine X.seq ?_
    refine X.seq ?_
    refine X.region ?_
    refine X.opw X.wN rfl (X.move (v := .bool _) rfl) ?_
    refine X.opsEnd ?_
    refine X.condB rfl (fun hd => ?_) (fun hd => ?_)
    · cases hd
    · refine X.skip ?_
      refine X.seq ?_
      refine X.seq ?_
      refine X.region ?_
      refine X.opw X.wN rfl (X.move (v := .string _) rfl) ?_
      refine X.opw X.wN rfl (X.move (v := .string _) rfl) ?_
      refine X.opB X.wN rfl rfl (X.ltD rfl rfl) (fun h16 => ?_) (fun h16 => ?_)
      · refine X.opsEnd ?_
        refine X.condT rfl ?_
        refine X.seq ?_
        refine X.region ?_
        refine X.opw X.wN rfl (X.assign rfl) ?_
        refine X.opsEnd ?_
        refine X.ret1 (v := (.int .i64 _)) Try.func79 Try.results79 rfl ?_
        exact ⟨by congr 1; unfold cmpS; simp_all, (hk1.trans hk2)⟩
      · refine X.opsEnd ?_
        refine X.condF rfl ?_
        refine X.skip ?_
        refine X.seq ?_
        refine X.seq ?_
        refine X.region ?_
        refine X.opw X.wN rfl (X.move (v := .string _) rfl) ?_
        refine X.opw X.wN rfl (X.move (v := .string _) rfl) ?_
        refine X.opB X.wN rfl rfl (X.gtD rfl rfl) (fun h19 => ?_) (fun h19 => ?_)
        · refine X.opsEnd ?_
          refine X.condT rfl ?_
          refine X.seq ?_
          refine X.region ?_
          refine X.opw X.wN rfl (X.assign rfl) ?_
          refine X.opsEnd ?_
          refine X.ret1 (v := (.int .i64 _)) Try.func79 Try.results79 rfl ?_
          exact ⟨by congr 1; unfold cmpS; simp_all, (hk1.trans hk2)⟩
        · refine X.opsEnd ?_
          refine X.condF rfl ?_
          refine X.skip ?_
          refine X.seq ?_
          refine X.region ?_
          refine X.opw X.wN rfl (X.assign rfl) ?_
          refine X.opsEnd ?_
          refine X.ret1 (v := (.int .i64 _)) Try.func79 Try.results79 rfl ?_
          exact ⟨by congr 1; unfold cmpS; simp_all, (hk1.trans hk2)⟩
-- f76 "cmp.Or[int]" params [54] results [3] -> [(ResultVar.tmp 2)] nfree 0 ntmps 18 names ["vals", "vals", ""
set_option maxHeartbeats 4000000 in
set_option maxRecDepth 100000 in
theorem cmpOr_c {lo hi : Nat} {A : Option Addr} {n c : Nat} {l : List Int} (w : World) (hs : Sl KI lo hi w A n l) : Ret Try.prog 76 #[.slice A n c] w fun r w' => r = .int .i64 (orI l) ∧ Keep w w' := by
  have hn := hs.bound
  have hl := hs.len
  refine X.enter Try.func76 rfl Try.ntmps76 rfl ?_
  refine X.seq ?_
  refine X.region ?_
  refine X.opw X.wN rfl (X.assign rfl) ?_
  refine X.opsEnd ?_
  refine X.seq ?_
  refine X.region ?_
  refine X.opw X.wN rfl (X.assign rfl) ?_
  refine X.opsEnd ?_
  refine X.seq ?_
  refine X.seq ?_
  refine X.region ?_
  refine X.opw X.wN rfl (X.move (v := .slice _ _ _) rfl) ?_
  refine X.opw X.wN rfl (X.lenSl Try.underlying54 rfl) ?_
  refine X.opw X.wN rfl (X.move rfl) ?_
  refine X.opsEnd ?_
  refine X.block ?_
  -- LOOP live: 3=zero, 6, 7, 8*
  refine X.loopL (σ := Nat) (fun s => [(3, .int .i64 0), (6, .slice A n c), (7, .int .i64 (n : Int)), (8, .int .i64 (s : Int))]) (fun s w' => s ≤ n ∧ orI (l.drop s) = orI l ∧ Keep w w') (fun s => n - s) 0 ⟨rfl, rfl, rfl, rfl, trivial⟩ ⟨Nat.zero_le _, rfl, (Keep.refl _)⟩ ?_
  rintro i b w1 ⟨hi1, hcm, hk⟩ hback
  have hk' := hk.size
  refine X.seq ?_
  refine X.region ?_
  refine X.opP X.wN rfl rfl (X.lss rfl rfl) (fun h9 => ?_) (fun h9 => ?_)
  · obtain ⟨x, hx⟩ := getN i hl h9
    rw [drop_at hx, orI] at hcm
    refine X.opsEnd ?_
    refine X.seq ?_
    refine X.condT rfl ?_
    refine X.skip ?_
    refine X.seq ?_
    refine X.block ?_
    refine X.seq ?_
    refine X.region ?_
    refine X.opw X.wN rfl (X.idxS (hs.keep hk) Try.underlying54 Try.sizeOf3 rfl rfl ⟨by omega, by omega⟩) ?_
    refine X.opw X.wN rfl (X.loadS Try.isAgg3 (hs.keep hk) hx rfl (fun _ h => by rw [h.1]; rfl)) ?_
    refine X.opw X.wN rfl (X.assign (v := .int .i64 _) rfl) ?_
    refine X.opsEnd ?_
    refine X.seq ?_
    refine X.region ?_
    refine X.opw X.wN rfl (X.move (v := .int .i64 _) rfl) ?_
    refine X.opw X.wN rfl (X.move (v := .int .i64 _) rfl) ?_
    refine X.opP X.wN rfl rfl (X.neI rfl rfl) (fun h14 => ?_) (fun h14 => ?_)
    · refine X.opsEnd ?_
      refine X.condT rfl ?_
      refine X.seq ?_
      refine X.region ?_
      refine X.opw X.wN rfl (X.move (v := .int .i64 _) rfl) ?_
      refine X.opw X.wN rfl (X.assign (v := .int .i64 _) rfl) ?_
      refine X.opsEnd ?_
      refine X.ret1 (v := (.int .i64 _)) Try.func76 Try.results76 rfl ?_
      exact ⟨by rw [if_pos h14] at hcm; rw [hcm], hk⟩
    · refine X.opsEnd ?_
      refine X.condF rfl ?_
      refine X.skip ?_
      refine X.inBlock ?_
      refine X.region ?_
      refine X.opw X.wN rfl (X.add rfl rfl (X.w_i64 (by omega))) ?_
      refine X.opw X.wN rfl (X.move (v := .int .i64 _) rfl) ?_
      refine X.opsEnd ?_
      refine hback (i + 1) _ _ ⟨rfl, rfl, rfl, rfl, trivial⟩ ⟨by omega, by rw [if_neg h14] at hcm; exact hcm, hk⟩ (by omega)
  · refine X.opsEnd ?_
    refine X.seq ?_
    refine X.condF rfl ?_
    refine X.exit rfl ?_
    refine X.seq ?_
    refine X.region ?_
    refine X.opw X.wN rfl (X.move (v := .int .i64 _) rfl) ?_
    refine X.opw X.wN rfl (X.assign (v := .int .i64 _) rfl) ?_
    refine X.opsEnd ?_
    refine X.ret1 (v := (.int .i64 _)) Try.func76 Try.results76 rfl ?_
    exact ⟨by rw [← hcm, List.drop_of_length_le (by omega)]; rfl, hk⟩
end Go.Proofs.Ytgfficbkajcdpaa

namespace Go.Proofs.Ytgfficbkajcdpaa
open Go Go.Proofs.Ytgfficbkajcdpaa.X
set_option linter.unusedVariables false
set_option linter.unusedSimpArgs false
theorem less_irr : ∀ x : List UInt8, Op.bytesLess x x = false
  | [] => rfl
  | a :: x => by rw [Op.bytesLess, less_irr x]; simp
theorem less_tri : ∀ x y : List UInt8, Op.bytesLess x y = false → Op.bytesLess y x = false → x = y
  | [], [], _, _ => rfl
  | [], b :: y, h, _ => by simp [Op.bytesLess] at h
  | a :: x, [], _, h => by simp [Op.bytesLess] at h
  | a :: x, b :: y, h1, h2 => by
    simp only [Op.bytesLess, Bool.or_eq_false_iff, decide_eq_false_iff_not, Bool.and_eq_false_iff, beq_eq_false_iff_ne] at h1 h2
    have e : a = b := UInt8.le_antisymm (UInt8.not_lt.1 h2.1) (UInt8.not_lt.1 h1.1)
    subst e
    rw [less_tri x y (h1.2.resolve_left (fun h => h rfl)) (h2.2.resolve_left (fun h => h rfl))]
theorem less_asym : ∀ x y : List UInt8, Op.bytesLess x y = true → Op.bytesLess y x = false
  | [], [], h => by simp [Op.bytesLess] at h
  | [], b :: y, _ => by simp [Op.bytesLess]
  | a :: x, [], h => by simp [Op.bytesLess] at h
  | a :: x, b :: y, h => by
    simp only [Op.bytesLess, Bool.or_eq_true, decide_eq_true_eq, Bool.and_eq_true, beq_iff_eq] at h
    simp only [Op.bytesLess, Bool.or_eq_false_iff, decide_eq_false_iff_not, Bool.and_eq_false_iff, beq_eq_false_iff_ne]
    rcases h with h | ⟨rfl, h⟩
    · exact ⟨fun h2 => UInt8.lt_irrefl _ (UInt8.lt_trans h h2), .inl (fun e => by subst e; exact UInt8.lt_irrefl _ h)⟩
    · exact ⟨UInt8.lt_irrefl _, .inr (less_asym x y h)⟩
theorem data_inj {a b : ByteArray} (h : a.data.toList = b.data.toList) : a = b := by
  obtain ⟨⟨a⟩⟩ := a
  obtain ⟨⟨b⟩⟩ := b
  simp at h; subst h; rfl
theorem cmpS_0 {a b : ByteArray} (h1 : ¬ Op.bytesLess a.data.toList b.data.toList = true) (h2 : ¬ Op.bytesLess b.data.toList a.data.toList = true) : a = b :=
  data_inj (less_tri _ _ (by simpa using h1) (by simpa using h2))
theorem orI_cmp (a b : VAL) : orI [cmp3 a.1 b.1, cmp3 a.2.1 b.2.1, cmpS a.2.2 b.2.2] = cmpV a b := by
  obtain ⟨a1, a2, a3⟩ := a
  obtain ⟨b1, b2, b3⟩ := b
  simp only [orI, cmp3, cmpS, cmpV, Prod.mk.injEq]
  by_cases h1 : a1 < b1
  · have : ¬ a1 = b1 := by omega
    simp [h1, this]
  by_cases h2 : b1 < a1
  · have : ¬ a1 = b1 := by omega
    simp [h1, h2, this]
  have e : a1 = b1 := by omega
  subst e
  by_cases h3 : a2 < b2
  · have : ¬ a2 = b2 := by omega
    simp [h3, this]
  by_cases h4 : b2 < a2
  · have : ¬ a2 = b2 := by omega
    simp [h3, h4, this]
  have e : a2 = b2 := by omega
  subst e
  by_cases h5 : Op.bytesLess a3.data.toList b3.data.toList = true
  · have : ¬ a3 = b3 := fun e => by subst e; rw [less_irr] at h5; cases h5
    simp [h5, this]
  by_cases h6 : Op.bytesLess b3.data.toList a3.data.toList = true
  · have : ¬ a3 = b3 := fun e => by subst e; rw [less_irr] at h6; cases h6
    simp [h5, h6, this]
  have e := cmpS_0 h5 h6
  subst e
  simp [less_irr]
theorem reps3I {w : World} {x y z : Int} (hx : okI x) (hy : okI y) (hz : okI z) : RepsV KI w [x, y, z] [.int .i64 x, .int .i64 y, .int .i64 z] := ⟨⟨_, rfl, rfl, hx⟩, ⟨_, rfl, rfl, hy⟩, ⟨_, rfl, rfl, hz⟩, trivial⟩
-- f75 "pedigree/value.Compare" params [102, 102] results [3] -> [(ResultVar.tmp 4)] nfree 0 ntmps 22 names ["
set_option maxHeartbeats 4000000 in
set_option maxRecDepth 100000 in
theorem valueCompare_c (a b : VAL) (w : World) : Ret Try.prog 75 #[.agg (encV a).toArray, .agg (encV b).toArray] w fun r w' => r = .int .i64 (cmpV a b) ∧ Keep w w' := by
  refine X.enter Try.func75 rfl Try.ntmps75 rfl ?_
  refine X.seq ?_
  refine X.region ?_
  refine X.opE X.wN rfl (X.boxE rfl rfl) ?_
  rintro _ w1 ⟨rfl, hB1, hk1, hz1⟩
  refine X.opE X.wN rfl (X.boxE rfl rfl) ?_
  rintro _ w2 ⟨rfl, hB2, hk2, hz2⟩
  refine X.opw X.wN rfl (X.assign rfl) ?_
  refine X.opsEnd ?_
  refine X.seq ?_
  refine X.regionD (fun _ => False) 17 (by kernel_rfl) (by kernel_rfl) (fun w3 hk3 hz3 => ?_)
  refine X.dTake 0 rfl (by kernel_rfl) (by kernel_rfl) (by kernel_rfl) (X.dwN rfl) (fun w' hk' => X.fldB (j := 0) Try.underlying102 rfl rfl Try.sizeOf100 rfl) ?_
  refine X.dTake 1 rfl (by kernel_rfl) (by kernel_rfl) (by kernel_rfl) (X.dwN rfl) (fun w' hk' => X.load1B Try.isAgg100 (hB1.keep ((hk2.trans hk3).trans hk')) rfl rfl) ?_
  refine X.dTake 2 rfl (by kernel_rfl) (by kernel_rfl) (by kernel_rfl) (X.dwN rfl) (fun w' hk' => X.fldB (j := 0) Try.underlying102 rfl rfl Try.sizeOf100 rfl) ?_
  refine X.dTake 3 rfl (by kernel_rfl) (by kernel_rfl) (by kernel_rfl) (X.dwN rfl) (fun w' hk' => X.load1B Try.isAgg100 (hB2.keep (hk3.trans hk')) rfl rfl) ?_
  refine X.dTake 5 rfl (by kernel_rfl) (by kernel_rfl) (by kernel_rfl) (X.dwN rfl) (fun w' hk' => X.fldB (j := 1) Try.underlying102 rfl rfl Try.sizeOf2 rfl) ?_
  refine X.dTake 6 rfl (by kernel_rfl) (by kernel_rfl) (by kernel_rfl) (X.dwN rfl) (fun w' hk' => X.load1B Try.isAgg2 (hB1.keep ((hk2.trans hk3).trans hk')) rfl rfl) ?_
  refine X.dTake 7 rfl (by kernel_rfl) (by kernel_rfl) (by kernel_rfl) (X.dwN rfl) (fun w' hk' => X.fldB (j := 1) Try.underlying102 rfl rfl Try.sizeOf2 rfl) ?_
  refine X.dTake 8 rfl (by kernel_rfl) (by kernel_rfl) (by kernel_rfl) (X.dwN rfl) (fun w' hk' => X.load1B Try.isAgg2 (hB2.keep (hk3.trans hk')) rfl rfl) ?_
  refine X.dTake 10 rfl (by kernel_rfl) (by kernel_rfl) (by kernel_rfl) (X.dwN rfl) (fun w' hk' => X.fldB (j := 2) Try.underlying102 rfl rfl Try.sizeOf9 rfl) ?_
  refine X.dTake 11 rfl (by kernel_rfl) (by kernel_rfl) (by kernel_rfl) (X.dwN rfl) (fun w' hk' => X.load1B Try.isAgg9 (hB1.keep ((hk2.trans hk3).trans hk')) rfl rfl) ?_
  refine X.dTake 12 rfl (by kernel_rfl) (by kernel_rfl) (by kernel_rfl) (X.dwN rfl) (fun w' hk' => X.fldB (j := 2) Try.underlying102 rfl rfl Try.sizeOf9 rfl) ?_
  refine X.dTake 13 rfl (by kernel_rfl) (by kernel_rfl) (by kernel_rfl) (X.dwN rfl) (fun w' hk' => X.load1B Try.isAgg9 (hB2.keep (hk3.trans hk')) rfl rfl) ?_
  refine X.dE (i := 4) (by kernel_rfl) rfl (X.dwN rfl) (X.callE (cmpKind_c _ _ _) Try.call77 rfl rfl) (by rintro _ w4 ⟨rfl, hk4⟩ _; exact hk4.mono (fun _ _ h => h.elim)) ?_
  rintro _ w4 ⟨rfl, hk4⟩
  have hk4' := hk4.size
  refine X.dE (i := 9) (by kernel_rfl) rfl (X.dwN rfl) (X.callE (cmpNum_c _ _ _) Try.call78 rfl rfl) (by rintro _ w5 ⟨rfl, hk5⟩ _; exact hk5.mono (fun _ _ h => h.elim)) ?_
  rintro _ w5 ⟨rfl, hk5⟩
  have hk5' := hk5.size
  refine X.dE (i := 14) (by kernel_rfl) rfl (X.dwN rfl) (X.callE (cmpStr_c _ _ _) Try.call79 rfl rfl) (by rintro _ w6 ⟨rfl, hk6⟩ _; exact hk6.mono (fun _ _ h => h.elim)) ?_
  rintro _ w6 ⟨rfl, hk6⟩
  have hk6' := hk6.size
  refine X.dE (i := 15) (by kernel_rfl) rfl (X.dwN rfl) (X.litKF KI_flat (K := KI) (xs := [Operand.tmp 9, Operand.tmp 14, Operand.tmp 19]) (vs := [.int .i64 (cmp3 a.1 b.1), .int .i64 (cmp3 a.2.1 b.2.1), .int .i64 (cmpS a.2.2 b.2.2)]) (ys := [cmp3 a.1 b.1, cmp3 a.2.1 b.2.1, cmpS a.2.2 b.2.2]) Try.underlying54 Try.sizeOf3 Try.zeroValue3 rfl rfl rfl rfl rfl (reps3I (cmp3_ok _ _) (cmp3_ok _ _) (cmpS_ok _ _))) (by rintro _ w7 ⟨rfl, hs7, hB7, hk7, hz7⟩ _; exact hk7.mono (fun _ _ h => h.elim)) ?_
  rintro _ w7 ⟨rfl, hs7, hB7, hk7, hz7⟩
  refine X.dE (i := 16) (by kernel_rfl) rfl (X.dwN rfl) (X.callE (cmpOr_c _ hs7) Try.call76 rfl rfl) (by rintro _ w8 ⟨rfl, hk8⟩ _; exact hk8.mono (fun _ _ h => h.elim)) ?_
  rintro _ w8 ⟨rfl, hk8⟩
  have hk8' := hk8.size
  refine X.dStep (i := 17) (by kernel_rfl) rfl (X.dwN rfl) (X.assign (v := .int .i64 _) rfl) (fun h => absurd h (by decide)) ?_
  refine X.dEnd (by kernel_rfl) ?_
  refine X.ret1 (v := (.int .i64 _)) Try.func75 Try.results75 rfl ?_
  exact ⟨by rw [orI_cmp], (((((((hk1.trans hk2).trans hk3).trans hk4).trans hk5).trans hk6).trans hk7).trans hk8)⟩
-- f74 "slices.CompareFunc[pedigree/api.Tuple,pedigree/api.Tuple,pedigree/api.Value,pedigree/api.Value]" param
set_option maxHeartbeats 4000000 in
set_option maxRecDepth 100000 in
theorem CompareFunc_c {lo1 hi1 lo2 hi2 : Nat} {A1 A2 : Option Addr} {n1 n2 c1 c2 : Nat} {l1 l2 : List VAL} (w : World) (hs1 : Sl KV lo1 hi1 w A1 n1 l1) (hs2 : Sl KV lo2 hi2 w A2 n2 l2) : Ret Try.prog 74 #[.slice A1 n1 c1, .slice A2 n2 c2, .func (.func 75) #[] #[]] w fun r w' => r = .int .i64 (cmpT l1 l2) ∧ Keep w w' := by
  have hn1 := hs1.bound
  have hl1 := hs1.len
  have hn2 := hs2.bound
  have hl2 := hs2.len
  refine X.enter Try.func74 rfl Try.ntmps74 rfl ?_
  refine X.seq ?_
  refine X.region ?_
  refine X.opw X.wN rfl (X.assign rfl) ?_
  refine X.opsEnd ?_
  refine X.seq ?_
  refine X.seq ?_
  refine X.region ?_
  refine X.opw X.wN rfl (X.move (v := .slice _ _ _) rfl) ?_
  refine X.opw X.wN rfl (X.lenSl Try.underlying68 rfl) ?_
  refine X.opw X.wN rfl (X.move rfl) ?_
  refine X.opsEnd ?_
  refine X.block ?_
  -- LOOP live: 0=s1, 1=s2, 2=cmp, 11, 12, 13*
  refine X.loopL (σ := Nat) (fun s => [(0, .slice A1 n1 c1), (1, .slice A2 n2 c2), (2, .func (.func 75) #[] #[]), (11, .slice A1 n1 c1), (12, .int .i64 (n1 : Int)), (13, .int .i64 (s : Int))]) (fun s w' => s ≤ n1 ∧ s ≤ n2 ∧ cmpT (l1.drop s) (l2.drop s) = cmpT l1 l2 ∧ Keep w w') (fun s => n1 - s) 0 ⟨rfl, rfl, rfl, rfl, rfl, rfl, trivial⟩ ⟨Nat.zero_le _, Nat.zero_le _, rfl, (Keep.refl _)⟩ ?_
  rintro i b w1 ⟨hi1, hi2, hcm, hk⟩ hback
  have hk' := hk.size
  refine X.seq ?_
  refine X.region ?_
  refine X.opP X.wN rfl rfl (X.lss rfl rfl) (fun h14 => ?_) (fun h14 => ?_)
  · obtain ⟨x, hx⟩ := getN i hl1 h14
    refine X.opsEnd ?_
    refine X.seq ?_
    refine X.condT rfl ?_
    refine X.skip ?_
    refine X.seq ?_
    refine X.block ?_
    refine X.seq ?_
    refine X.region ?_
    refine X.opw X.wN rfl (X.move (v := .int .i64 _) rfl) ?_
    refine X.opw X.wN rfl (X.idxS (hs1.keep hk) Try.underlying68 Try.sizeOf102 rfl rfl ⟨by omega, by omega⟩) ?_
    refine X.opw X.wN rfl (X.loadSN Try.isAgg102 Try.sizeOf102 (hs1.keep hk) hx rfl (fun _ h => h.1) rfl) ?_
    refine X.opE X.wN rfl (X.allocE Try.zeroValue102 rfl) ?_
    rintro _ w1 ⟨rfl, hB1, hk1, hz1⟩
    refine X.opw X.wN rfl (X.assign (v := .int .i64 _) rfl) ?_
    refine X.opE X.wN rfl (X.storeNE Try.sizeOf102 hB1 rfl rfl rfl rfl (encV_one _)) ?_
    rintro _ w2 ⟨hB2, hx2, hz2⟩
    refine X.opsEnd ?_
    refine X.seq ?_
    refine X.seq ?_
    refine X.region ?_
    refine X.opw X.wN rfl (X.move (v := .int .i64 _) rfl) ?_
    refine X.opw X.wN rfl (X.move (v := .slice _ _ _) rfl) ?_
    refine X.opw X.wN rfl (X.lenSl Try.underlying68 rfl) ?_
    refine X.opP X.wN rfl rfl (X.geq rfl rfl) (fun h21 => ?_) (fun h21 => ?_)
    · refine X.opsEnd ?_
      refine X.condT rfl ?_
      refine X.seq ?_
      refine X.region ?_
      refine X.opw X.wN rfl (X.assign rfl) ?_
      refine X.opsEnd ?_
      refine X.ret1 (v := (.int .i64 _)) Try.func74 Try.results74 rfl ?_
      exact ⟨by congr 1; rw [← hcm, cmp_end (by omega) (by omega) (by omega)]; (repeat' split) <;> omega, ((hk.trans hk1).step hx2 (by intros; (try simp only [] at *); omega))⟩
    · obtain ⟨y, hy⟩ := getN i hl2 (by omega)
      rw [drop_at hx, drop_at hy, cmpT] at hcm
      refine X.opsEnd ?_
      refine X.condF rfl ?_
      refine X.skip ?_
      refine X.seq ?_
      refine X.region ?_
      refine X.opw X.wN rfl (X.move (v := .slice _ _ _) rfl) ?_
      refine X.opw X.wN rfl (X.move (v := .int .i64 _) rfl) ?_
      refine X.opw X.wN rfl (X.idxS (hs2.keep ((hk.trans hk1).step hx2 (by intros; (try simp only [] at *); omega))) Try.underlying68 Try.sizeOf102 rfl rfl ⟨by omega, by omega⟩) ?_
      refine X.opw X.wN rfl (X.loadSN Try.isAgg102 Try.sizeOf102 (hs2.keep ((hk.trans hk1).step hx2 (by intros; (try simp only [] at *); omega))) hy rfl (fun _ h => h.1) rfl) ?_
      refine X.opE X.wN rfl (X.allocE Try.zeroValue102 rfl) ?_
      rintro _ w3 ⟨rfl, hB3, hk3, hz3⟩
      refine X.opE X.wN rfl (X.storeNE Try.sizeOf102 hB3 rfl rfl rfl rfl (encV_one _)) ?_
      rintro _ w4 ⟨hB4, hx4, hz4⟩
      refine X.opsEnd ?_
      refine X.seq ?_
      refine X.region ?_
      refine X.opw X.wN rfl (X.move rfl) ?_
      refine X.opw X.wN rfl (X.loadNB Try.isAgg102 Try.sizeOf102 (hB2.keep (hk3.step hx4 (by intros; (try simp only [] at *); omega))) rfl rfl rfl) ?_
      refine X.opw X.wN rfl (X.loadNB Try.isAgg102 Try.sizeOf102 hB4 rfl rfl rfl) ?_
      refine X.opE X.wN rfl ((YC.of_ret (args := [_, _]) (cap := []) (valueCompare_c x y _) Try.call75) _ _ _ _ _ _ _ _ _ rfl rfl) ?_
      rintro _ w5 ⟨rfl, hk5⟩
      have hk5' := hk5.size
      refine X.opw X.wN rfl (X.assign (v := .int .i64 _) rfl) ?_
      refine X.opsEnd ?_
      refine X.seq ?_
      refine X.region ?_
      refine X.opw X.wN rfl (X.move (v := .int .i64 _) rfl) ?_
      refine X.opP X.wN rfl rfl (X.neI rfl rfl) (fun h31 => ?_) (fun h31 => ?_)
      · refine X.opsEnd ?_
        refine X.condT rfl ?_
        refine X.seq ?_
        refine X.region ?_
        refine X.opw X.wN rfl (X.move (v := .int .i64 _) rfl) ?_
        refine X.opw X.wN rfl (X.assign (v := .int .i64 _) rfl) ?_
        refine X.opsEnd ?_
        refine X.ret1 (v := (.int .i64 _)) Try.func74 Try.results74 rfl ?_
        exact ⟨by rw [if_pos h31] at hcm; rw [hcm], (((((hk.trans hk1).step hx2 (by intros; (try simp only [] at *); omega)).trans hk3).step hx4 (by intros; (try simp only [] at *); omega)).trans hk5)⟩
      · refine X.opsEnd ?_
        refine X.condF rfl ?_
        refine X.skip ?_
        refine X.inBlock ?_
        refine X.region ?_
        refine X.opw X.wN rfl (X.add rfl rfl (X.w_i64 (by omega))) ?_
        refine X.opw X.wN rfl (X.move (v := .int .i64 _) rfl) ?_
        refine X.opsEnd ?_
        refine hback (i + 1) _ _ ⟨rfl, rfl, rfl, rfl, rfl, rfl, trivial⟩ ⟨by omega, by omega, by rw [if_neg h31] at hcm; exact hcm, (((((hk.trans hk1).step hx2 (by intros; (try simp only [] at *); omega)).trans hk3).step hx4 (by intros; (try simp only [] at *); omega)).trans hk5)⟩ (by omega)
  · refine X.opsEnd ?_
    refine X.seq ?_
    refine X.condF rfl ?_
    refine X.exit rfl ?_
    refine X.seq ?_
    refine X.seq ?_
    refine X.region ?_
    refine X.opw X.wN rfl (X.move (v := .slice _ _ _) rfl) ?_
    refine X.opw X.wN rfl (X.lenSl Try.underlying68 rfl) ?_
    refine X.opw X.wN rfl (X.move (v := .slice _ _ _) rfl) ?_
    refine X.opw X.wN rfl (X.lenSl Try.underlying68 rfl) ?_
    refine X.opP X.wN rfl rfl (X.lss rfl rfl) (fun h38 => ?_) (fun h38 => ?_)
    · refine X.opsEnd ?_
      refine X.condT rfl ?_
      refine X.seq ?_
      refine X.region ?_
      refine X.opw X.wN rfl (X.assign rfl) ?_
      refine X.opsEnd ?_
      refine X.ret1 (v := (.int .i64 _)) Try.func74 Try.results74 rfl ?_
      exact ⟨by congr 1; rw [← hcm, cmp_end (by omega) (by omega) (by omega)]; (repeat' split) <;> omega, hk⟩
    · refine X.opsEnd ?_
      refine X.condF rfl ?_
      refine X.skip ?_
      refine X.seq ?_
      refine X.region ?_
      refine X.opw X.wN rfl (X.assign rfl) ?_
      refine X.opsEnd ?_
      refine X.ret1 (v := (.int .i64 _)) Try.func74 Try.results74 rfl ?_
      exact ⟨by congr 1; rw [← hcm, cmp_end (by omega) (by omega) (by omega)]; (repeat' split) <;> omega, hk⟩
-- f73 "pedigree/tuple.Compare" params [68, 68] results [3] -> [(ResultVar.tmp 4)] nfree 0 ntmps 8 names ["a",
set_option maxHeartbeats 4000000 in
set_option maxRecDepth 100000 in
theorem tupleCompare_c {lo1 hi1 lo2 hi2 : Nat} {A1 A2 : Option Addr} {n1 n2 c1 c2 : Nat} {l1 l2 : List VAL} (w : World) (hs1 : Sl KV lo1 hi1 w A1 n1 l1) (hs2 : Sl KV lo2 hi2 w A2 n2 l2) : Ret Try.prog 73 #[.slice A1 n1 c1, .slice A2 n2 c2] w fun r w' => r = .int .i64 (cmpT l1 l2) ∧ Keep w w' := by
  refine X.enter Try.func73 rfl Try.ntmps73 rfl ?_
  refine X.seq ?_
  refine X.region ?_
  refine X.opw X.wN rfl (X.assign rfl) ?_
  refine X.opsEnd ?_
  refine X.seq ?_
  refine X.region ?_
  refine X.opw X.wN rfl (X.move (v := .slice _ _ _) rfl) ?_
  refine X.opw X.wN rfl (X.move (v := .slice _ _ _) rfl) ?_
  refine X.opE X.wN rfl (X.callE (CompareFunc_c _ hs1 hs2) Try.call74 rfl rfl) ?_
  rintro _ w1 ⟨rfl, hk1⟩
  have hk1' := hk1.size
  refine X.opw X.wN rfl (X.assign (v := .int .i64 _) rfl) ?_
  refine X.opsEnd ?_
  refine X.ret1 (v := (.int .i64 _)) Try.func73 Try.results73 rfl ?_
  exact ⟨rfl, hk1⟩
end Go.Proofs.Ytgfficbkajcdpaa

namespace Go.Proofs.Ytgfficbkajcdpaa
open Go Go.Proofs.Ytgfficbkajcdpaa.X
set_option linter.unusedVariables false
set_option linter.unusedSimpArgs false
abbrev HDR := Option Addr × Nat × Nat
/-- The tuple of a slice's three words, in the world w0, below B. -/
def TPL (B : Nat) (w0 : World) (h : HDR) (t : List VAL) : Prop := Sl KV 0 B w0 h.1 h.2.1 t
open Classical in
noncomputable def tp (B : Nat) (w0 : World) (h : HDR) : List VAL := if q : ∃ t, TPL B w0 h t then q.choose else []
theorem tp_ok {B : Nat} {w0 : World} {h : HDR} (q : ∃ t, TPL B w0 h t) : Sl KV 0 B w0 h.1 h.2.1 (tp B w0 h) := by
  rw [tp, dif_pos q]; exact q.choose_spec
def okC (B : Nat) (w0 : World) (x : CT) : Prop := ∃ t, TPL B w0 x.1 t
def CWc (B : Nat) (w0 w : World) : Prop := Ext (fun k => B ≤ k) w0 w
theorem CWc.step {B : Nat} {w0 w w' : World} (h : CWc B w0 w) (x : Ext (fun k => B ≤ k) w w') : CWc B w0 w' := Ext.trans h x (fun _ _ h => h) (fun _ _ h => h)
noncomputable def cmC (B : Nat) (w0 : World) (x y : CT) : Int := cmpT (tp B w0 x.1) (tp B w0 y.1)
noncomputable def ltC (B : Nat) (w0 : World) (x y : CT) : Bool := decide (cmC B w0 x y < 0)
noncomputable def eqC (B : Nat) (w0 : World) (x y : CT) : Bool := decide (cmC B w0 x y = 0)
/-- Those that are alike, added up; the rest; all sums that are something. -/
def absC (eq : CT → CT → Bool) (x : CT) : List CT → CT × List CT
  | [] => (x, [])
  | y :: l => if eq x y then absC eq (x.1, IntKind.i64.wrap (x.2 + y.2)) l else (x, y :: l)
def sumF (eq : CT → CT → Bool) : Nat → List CT → List CT
  | 0, _ => []
  | _ + 1, [] => []
  | f + 1, x :: l => if (absC eq x l).1.2 ≠ 0 then (absC eq x l).1 :: sumF eq f (absC eq x l).2 else sumF eq f (absC eq x l).2
def sumC (eq : CT → CT → Bool) (l : List CT) : List CT := sumF eq l.length l
section
variable {eq : CT → CT → Bool}
theorem absC_len : ∀ (l : List CT) (x : CT), (absC eq x l).2.length ≤ l.length
  | [], x => by simp [absC]
  | y :: l, x => by
    rw [absC]; split
    · have := absC_len l (x.1, IntKind.i64.wrap (x.2 + y.2)); simp; omega
    · simp
theorem absC_mem : ∀ (l : List CT) (x y : CT), y ∈ (absC eq x l).2 → y ∈ l
  | [], x, y, h => by simp [absC] at h
  | z :: l, x, y, h => by
    rw [absC] at h; split at h
    · exact List.mem_cons_of_mem _ (absC_mem l _ y h)
    · exact h
theorem absC_hd : ∀ (l : List CT) (x : CT), (absC eq x l).1.1 = x.1
  | [], x => rfl
  | y :: l, x => by
    rw [absC]; split
    · exact absC_hd l _
    · rfl
theorem sumF_eq : ∀ (f : Nat) (l : List CT), l.length ≤ f → sumF eq f l = sumF eq l.length l
  | 0, [], _ => rfl
  | 0, _ :: _, h => by simp at h
  | f + 1, [], _ => rfl
  | f + 1, x :: l, h => by
    have h1 := absC_len (eq := eq) l x
    simp only [List.length_cons] at h ⊢
    rw [sumF, sumF, sumF_eq f _ (by omega), sumF_eq l.length _ h1]
theorem sumC_nil : sumC eq [] = [] := rfl
theorem sumC_cons (x : CT) (l : List CT) : sumC eq (x :: l) = if (absC eq x l).1.2 ≠ 0 then (absC eq x l).1 :: sumC eq (absC eq x l).2 else sumC eq (absC eq x l).2 := by
  have h1 := absC_len (eq := eq) l x
  rw [sumC, List.length_cons, sumF, sumF_eq l.length _ h1]; rfl
end
theorem sumC_len {eq : CT → CT → Bool} : ∀ (n : Nat) (l : List CT), l.length ≤ n → (sumC eq l).length ≤ l.length
  | 0, [], _ => Nat.le_refl _
  | n + 1, [], _ => Nat.le_refl _
  | n + 1, x :: l, h => by
    have h1 := absC_len (eq := eq) l x
    have h2 := sumC_len (eq := eq) n (absC eq x l).2 (by simp at h; omega)
    rw [sumC_cons]; split
    · simp; omega
    · simp; omega
theorem cmpT_same {B : Nat} {w0 : World} {x x' y : CT} (h : x.1 = x'.1) : cmC B w0 x y = cmC B w0 x' y := by rw [cmC, cmC, h]
-- f62 "pedigree/merge.ahead" params [70, 70] results [3] -> [(ResultVar.tmp 4)] nfree 0 ntmps 10 names ["a", 
set_option maxHeartbeats 4000000 in
set_option maxRecDepth 100000 in
theorem ahead_c {lo1 hi1 lo2 hi2 : Nat} {A1 A2 : Option Addr} {n1 n2 c1 c2 : Nat} {l1 l2 : List VAL} (N1 N2 : Int) (w : World) (hs1 : Sl KV lo1 hi1 w A1 n1 l1) (hs2 : Sl KV lo2 hi2 w A2 n2 l2) : Ret Try.prog 62 #[.agg #[.slice A1 n1 c1, .int .i64 N1], .agg #[.slice A2 n2 c2, .int .i64 N2]] w fun r w' => r = .int .i64 (cmpT l1 l2) ∧ Keep w w' := by
  refine X.enter Try.func62 rfl Try.ntmps62 rfl ?_
  refine X.seq ?_
  refine X.region ?_
  refine X.opE X.wN rfl (X.boxE rfl rfl) ?_
  rintro _ w1 ⟨rfl, hB1, hk1, hz1⟩
  refine X.opE X.wN rfl (X.boxE rfl rfl) ?_
  rintro _ w2 ⟨rfl, hB2, hk2, hz2⟩
  refine X.opw X.wN rfl (X.assign rfl) ?_
  refine X.opsEnd ?_
  refine X.seq ?_
  refine X.region ?_
  refine X.opw X.wN rfl (X.fldB (j := 0) Try.underlying70 rfl rfl Try.sizeOf68 rfl) ?_
  refine X.opw X.wN rfl (X.load1B Try.isAgg68 (hB1.keep hk2) rfl rfl) ?_
  refine X.opw X.wN rfl (X.fldB (j := 0) Try.underlying70 rfl rfl Try.sizeOf68 rfl) ?_
  refine X.opw X.wN rfl (X.load1B Try.isAgg68 hB2 rfl rfl) ?_
  refine X.opE X.wN rfl (X.callE (tupleCompare_c _ (hs1.keep (hk1.trans hk2)) (hs2.keep (hk1.trans hk2))) Try.call73 rfl rfl) ?_
  rintro _ w3 ⟨rfl, hk3⟩
  have hk3' := hk3.size
  refine X.opw X.wN rfl (X.assign (v := .int .i64 _) rfl) ?_
  refine X.opsEnd ?_
  refine X.ret1 (v := (.int .i64 _)) Try.func62 Try.results62 rfl ?_
  exact ⟨rfl, ((hk1.trans hk2).trans hk3)⟩
theorem ahead_ok {B : Nat} {w0 : World} {x y : CT} {w : World} (hx : okC B w0 x) (hy : okC B w0 y) (h : CWc B w0 w) : Ret Try.prog 62 #[evC x, evC y] w fun r w' => r = .int .i64 (cmC B w0 x y) ∧ Keep w w' :=
  ahead_c x.2 y.2 w ((tp_ok hx).ext h fun k _ h2 h3 => absurd h3 (Nat.not_le.2 h2)) ((tp_ok hy).ext h fun k _ h2 h3 => absurd h3 (Nat.not_le.2 h2))
theorem ahead_cmp {B : Nat} {w0 : World} (x y : CT) (wa : World) (hx : okC B w0 x) (hy : okC B w0 y) (h : CWc B w0 wa) : YC Try.prog (.func (.func 62) #[] #[]) [evC x, evC y] wa fun r wb => ∃ nc, r = .int .i64 nc ∧ (nc < 0 ↔ ltC B w0 x y = true) ∧ Keep wa wb :=
  YC.of_ret (args := [_, _]) (cap := []) ((ahead_ok hx hy h).mono fun r w' ⟨h1, h2⟩ => ⟨_, h1, by simp [ltC], h2⟩) Try.call62
-- f63 "pedigree/merge.Sum$1" params [] results [70, 4] -> [(ResultVar.cell 1 70), (ResultVar.tmp 2)] nfree 1 
set_option maxHeartbeats 4000000 in
set_option maxRecDepth 100000 in
theorem CSum1_c {B B0 : Nat} {w0 : World} {Tt : Nat → Prop} {hb c0 : Nat} {ys : List CT} (w : World) (h0 : Blk w c0 [ptrV hb] 103) (hd : HdC B Tt hb ys w) (hBs : B ≤ w.heap.size) (hBh : B ≤ hb) (hbl : hb < w.heap.size) (hTh : ¬ Tt hb) (hTb : ∀ k, Tt k → k < w.heap.size) (hTB : ∀ k, Tt k → B ≤ k) (hB0 : B0 ≤ B) (hsep : ∀ k, (Tt k ∨ k = hb) → k ≠ c0) (hCW : CWc B0 w0 w) (hok : ∀ x, x ∈ ys → okC B0 w0 x) :
    Ret Try.prog 63 #[ptrV c0] w fun r w' => r = hdV evC zC (sumC (eqC B0 w0) ys) ∧ Ext (fun k => Tt k ∨ k = hb) w w' ∧ (sumC (eqC B0 w0) ys ≠ [] → ∃ ys', (sumC (eqC B0 w0) ys).tail = sumC (eqC B0 w0) ys' ∧ HdC B Tt hb ys' w' ∧ ∀ x, x ∈ ys' → okC B0 w0 x) := by
  have h0l := h0.lt
  have hUb : ∀ k, (Tt k ∨ k = hb) → k < w.heap.size := fun k h => h.elim (hTb k) (fun h => by omega)
  have hUB : ∀ k, k < w.heap.size → (Tt k ∨ k = hb) → B0 ≤ k := fun k _ h => h.elim (fun h => by have := hTB k h; omega) (fun h => by omega)
  refine X.enter Try.func63 rfl Try.ntmps63 rfl ?_
  refine X.seq ?_
  refine X.region ?_
  refine X.opE X.wN rfl (X.allocE Try.zeroValue70 rfl) ?_
  rintro _ w1 ⟨rfl, hB1, hk1, hz1⟩
  refine X.opw X.wN rfl (X.assign rfl) ?_
  refine X.opsEnd ?_
  refine X.block ?_
  -- LOOP live: 0, 1
  refine X.loopL (σ := List CT) (fun s => [(0, ptrV c0), (1, .pointer (some ⟨w.heap.size, 0, none⟩))]) (fun s w' => sumC (eqC B0 w0) s = sumC (eqC B0 w0) ys ∧ (∀ x, x ∈ s → okC B0 w0 x) ∧ Blk w' c0 [ptrV hb] 103 ∧ Blk w' w.heap.size [.slice none 0 0, .int .i64 0] 70 ∧ HdC B Tt hb s w' ∧ Ext (fun k => Tt k ∨ k = hb) w w' ∧ w.heap.size < w'.heap.size) (fun s => s.length) ys ⟨rfl, rfl, trivial⟩ ⟨rfl, hok, (h0.keep hk1), hB1, hd.ext hk1 (fun _ _ h => h.elim), hk1.mono (fun _ _ h => h.elim), by omega⟩ ?_
  rintro l b0 wl ⟨hs1, hs2, hBp, hBq, hHd, hE, hwl⟩ hback
  refine X.block ?_
  refine X.seq ?_
  refine X.region ?_
  refine X.opw X.wN rfl (X.load1B Try.isAgg103 hBp rfl rfl) ?_
  refine X.opE X.wN rfl (X.callE (clook_c _ hHd (by omega) hBh hTh (fun k hk => by have := hTb k hk; omega)) Try.call64 rfl rfl) ?_
  rintro _ w2 ⟨y2, rfl, hH2, hx2⟩
  have hx2' := hx2.size
  refine X.opw X.wN rfl (X.move rfl) ?_
  refine X.opw X.wN rfl (X.extr rfl rfl) ?_
  refine X.opw X.wN rfl (X.extr rfl rfl) ?_
  refine X.opE X.wN rfl (X.allocE Try.zeroValue70 rfl) ?_
  rintro _ w3 ⟨rfl, hB3, hk3, hz3⟩
  refine X.opE X.wN rfl (X.storeNE Try.sizeOf70 hB3 rfl rfl rfl rfl (fun u hu => by simp at hu; rcases hu with rfl | rfl <;> rfl)) ?_
  rintro _ w4 ⟨hB4, hx4, hz4⟩
  refine X.opw X.wN rfl (X.assign (v := .bool _) rfl) ?_
  refine X.opsEnd ?_
  refine X.seq ?_
  refine X.seq ?_
  refine X.region ?_
  refine X.opw X.wN rfl (X.move (v := .bool _) rfl) ?_
  refine X.opw X.wN rfl (X.not_ rfl) ?_
  refine X.opsEnd ?_
  refine X.condB rfl (fun hc => ?_) (fun hc => ?_)
  · obtain rfl : l = [] := by simpa using hc
    refine X.seq ?_
    refine X.region ?_
    refine X.opw X.wN rfl (X.buildB (vs := []) (cs := #[.slice none 0 0, .int .i64 0]) rfl (by kernel_rfl)) ?_
    refine X.opE X.wN rfl (X.storeNE Try.sizeOf70 ((hBq.ext hx2 (fun h => absurd (hUb _ (h)) (by (try simp only []); omega))).keep (hk3.step hx4 (by intros; (try simp only [] at *); omega))) rfl rfl rfl rfl (fun u hu => by simp at hu; rcases hu with rfl | rfl <;> rfl)) ?_
    rintro _ w5 ⟨hB5, hx5, hz5⟩
    refine X.opw X.wN rfl (X.assign rfl) ?_
    refine X.opsEnd ?_
    refine X.ret_unw (X.unwR2 Try.func63 Try.results63 (X.ResOk.cell rfl (X.lvN Try.isAgg70 Try.sizeOf70 hB5 rfl)) (show X.ResOk _ _ _ (.tmp 2) (.bool _) from rfl) ?_)
    rw [← hs1]
    exact ⟨rfl, (Ext.andThen (Ext.andThen (Ext.andThen (Ext.andThen hE hx2 (by intro k h1 h2; first | exact h2 | exact .inr h2 | exact (h2 : False).elim | (exfalso; (try simp only [] at *); omega))) hk3 (by intro k h1 h2; first | exact h2 | exact .inr h2 | exact (h2 : False).elim | (exfalso; (try simp only [] at *); omega))) hx4 (by intro k h1 h2; first | exact h2 | exact .inr h2 | exact (h2 : False).elim | (exfalso; (try simp only [] at *); omega))) hx5 (by intro k h1 h2; first | exact h2 | exact .inr h2 | exact (h2 : False).elim | (exfalso; (try simp only [] at *); omega))), fun h => absurd rfl h⟩
  · obtain ⟨l', rfl⟩ : ∃ l', l = y2 :: l' := by
      cases l with
      | nil => simp at hc
      | cons z l => exact ⟨l, by rw [hH2.head]⟩
    have hHy2 := hH2
    have hoy := hs2 _ List.mem_cons_self
    refine X.skip ?_
    refine X.seq ?_
    refine X.region ?_
    refine X.opw X.wN rfl (X.load1B Try.isAgg103 ((hBp.ext hx2 (fun h => (hsep _ (h)) rfl)).keep (hk3.step hx4 (by intros; (try simp only [] at *); omega))) rfl rfl) ?_
    refine X.opE X.wN rfl (X.callE (cpass_c _ (hHy2.ext (Ext.andThen (Ext.andThen (Ext.refl (fun k => w.heap.size ≤ k) _) hk3 (by intro k h1 h2; first | exact (h2 : False).elim | omega | ((try simp only [] at *); omega))) hx4 (by intro k h1 h2; first | exact (h2 : False).elim | omega | ((try simp only [] at *); omega))) (fun k hk h => ⟨by omega, fun ht => by have := hTb k ht; omega, by omega⟩)) hBh hTh) Try.call65 rfl rfl) ?_
    rintro _ w6 ⟨rfl, hH6, hx6⟩
    have hx6' := hx6.size
    refine X.opsEnd ?_
    refine X.seq ?_
    refine X.block ?_
    -- LOOP live: 0, 1, 3=x
    have hwb : w.heap.size < w2.heap.size := by omega
    refine X.loopL (σ := CT × List CT) (fun s => [(0, ptrV c0), (1, .pointer (some ⟨w.heap.size, 0, none⟩)), (3, .pointer (some ⟨w2.heap.size, 0, none⟩))]) (fun s w' => absC (eqC B0 w0) s.1 s.2 = absC (eqC B0 w0) y2 l' ∧ s.1.1 = y2.1 ∧ (∀ x, x ∈ s.2 → x ∈ l') ∧ s.2.length ≤ l'.length ∧ Blk w' w2.heap.size [.slice s.1.1.1 s.1.1.2.1 s.1.1.2.2, .int .i64 s.1.2] 70 ∧ Blk w' c0 [ptrV hb] 103 ∧ Blk w' w.heap.size [.slice none 0 0, .int .i64 0] 70 ∧ HdC B Tt hb s.2 w' ∧ Ext (fun k => Tt k ∨ k = hb) w w' ∧ w.heap.size < w'.heap.size ∧ w2.heap.size < w'.heap.size) (fun s => s.2.length) (y2, l') ⟨rfl, rfl, rfl, trivial⟩ ⟨rfl, rfl, fun _ h => h, Nat.le_refl _, (hB4.ext hx6 (fun h => absurd (hUb _ (.inr h)) (by (try simp only []); omega))), (((hBp.ext hx2 (fun h => (hsep _ (h)) rfl)).keep (hk3.step hx4 (by intros; (try simp only [] at *); omega))).ext hx6 (fun h => (hsep _ (.inr h)) rfl)), (((hBq.ext hx2 (fun h => absurd (hUb _ (h)) (by (try simp only []); omega))).keep (hk3.step hx4 (by intros; (try simp only [] at *); omega))).ext hx6 (fun h => absurd (hUb _ (.inr h)) (by (try simp only []); omega))), hH6, (Ext.andThen (Ext.andThen (Ext.andThen (Ext.andThen hE hx2 (by intro k h1 h2; first | exact h2 | exact .inr h2 | exact (h2 : False).elim | (exfalso; (try simp only [] at *); omega))) hk3 (by intro k h1 h2; first | exact h2 | exact .inr h2 | exact (h2 : False).elim | (exfalso; (try simp only [] at *); omega))) hx4 (by intro k h1 h2; first | exact h2 | exact .inr h2 | exact (h2 : False).elim | (exfalso; (try simp only [] at *); omega))) hx6 (by intro k h1 h2; first | exact h2 | exact .inr h2 | exact (h2 : False).elim | (exfalso; (try simp only [] at *); omega))), by omega, by omega⟩ ?_
    rintro ⟨x, m⟩ b1 wm ⟨ha, hah, ham, hal, hBx, hBp, hBq, hHe, hE, hwm, hwm3⟩ hback2
    dsimp only
    simp only at ha hah ham hal hBx hHe
    refine X.block ?_
    refine X.seq ?_
    refine X.region ?_
    refine X.opw X.wN rfl (X.load1B Try.isAgg103 hBp rfl rfl) ?_
    refine X.opE X.wN rfl (X.callE (clook_c _ hHe (by omega) hBh hTh (fun k hk => by have := hTb k hk; omega)) Try.call64 rfl rfl) ?_
    rintro _ w7 ⟨y7, rfl, hH7, hx7⟩
    have hx7' := hx7.size
    refine X.opw X.wN rfl (X.move rfl) ?_
    refine X.opw X.wN rfl (X.extr rfl rfl) ?_
    refine X.opw X.wN rfl (X.extr rfl rfl) ?_
    refine X.opE X.wN rfl (X.allocE Try.zeroValue70 rfl) ?_
    rintro _ w8 ⟨rfl, hB8, hk8, hz8⟩
    refine X.opE X.wN rfl (X.storeNE Try.sizeOf70 hB8 rfl rfl rfl rfl (fun u hu => by simp at hu; rcases hu with rfl | rfl <;> rfl)) ?_
    rintro _ w9 ⟨hB9, hx9, hz9⟩
    refine X.opw X.wN rfl (X.assign (v := .bool _) rfl) ?_
    refine X.opsEnd ?_
    refine X.seq ?_
    refine X.seq ?_
    refine X.region ?_
    refine X.opw X.wN rfl (X.move (v := .bool _) rfl) ?_
    refine X.opw X.wN rfl (X.not_ rfl) ?_
    refine X.opw X.wN rfl (X.move (v := .bool _) rfl) ?_
    refine X.forkO 24 rfl (fun h24 => ?_) (fun h24 => ?_)
    · obtain rfl : m = [] := by simpa using h24
      refine X.opS rfl rfl rfl rfl rfl ?_
      refine X.opS rfl rfl rfl rfl rfl ?_
      refine X.opS rfl rfl rfl rfl rfl ?_
      refine X.opS rfl rfl rfl rfl rfl ?_
      refine X.opw X.wN rfl (X.pickT (v := .bool true) rfl rfl) ?_
      refine X.opsEnd ?_
      refine X.condT rfl ?_
      refine X.exit rfl ?_
      refine X.seq ?_
      refine X.region ?_
      refine X.opw X.wN rfl (X.fldB (j := 1) Try.underlying70 rfl rfl Try.sizeOf2 rfl) ?_
      refine X.opw X.wN rfl (X.load1B Try.isAgg2 ((hBx.ext hx7 (fun h => absurd (hUb _ (h)) (by (try simp only []); omega))).keep (hk8.step hx9 (by intros; (try simp only [] at *); omega))) rfl rfl) ?_
      refine X.opP X.wN rfl rfl (X.neI rfl rfl) (fun h40 => ?_) (fun h40 => ?_)
      · refine X.opsEnd ?_
        refine X.condT rfl ?_
        refine X.seq ?_
        refine X.region ?_
        refine X.opw X.wN rfl (X.loadNB Try.isAgg70 Try.sizeOf70 ((hBx.ext hx7 (fun h => absurd (hUb _ (h)) (by (try simp only []); omega))).keep (hk8.step hx9 (by intros; (try simp only [] at *); omega))) rfl rfl rfl) ?_
        refine X.opE X.wN rfl (X.storeNE Try.sizeOf70 ((hBq.ext hx7 (fun h => absurd (hUb _ (h)) (by (try simp only []); omega))).keep (hk8.step hx9 (by intros; (try simp only [] at *); omega))) rfl rfl rfl rfl (fun u hu => by simp at hu; rcases hu with rfl | rfl <;> rfl)) ?_
        rintro _ w10 ⟨hB10, hx10, hz10⟩
        refine X.opw X.wN rfl (X.assign rfl) ?_
        refine X.opsEnd ?_
        refine X.ret_unw (X.unwR2 Try.func63 Try.results63 (X.ResOk.cell rfl (X.lvN Try.isAgg70 Try.sizeOf70 hB10 rfl)) (show X.ResOk _ _ _ (.tmp 2) (.bool _) from rfl) ?_)
        have hab2 : absC (eqC B0 w0) y2 l' = (x, []) := by rw [← ha]; rfl
        have hz : x.2 ≠ 0 := by simpa using h40
        have hsm : sumC (eqC B0 w0) ys = x :: sumC (eqC B0 w0) [] := by rw [← hs1, sumC_cons, hab2, if_pos hz]
        rw [hsm]
        exact ⟨rfl, (Ext.andThen (Ext.andThen (Ext.andThen (Ext.andThen hE hx7 (by intro k h1 h2; first | exact h2 | exact .inr h2 | exact (h2 : False).elim | (exfalso; (try simp only [] at *); omega))) hk8 (by intro k h1 h2; first | exact h2 | exact .inr h2 | exact (h2 : False).elim | (exfalso; (try simp only [] at *); omega))) hx9 (by intro k h1 h2; first | exact h2 | exact .inr h2 | exact (h2 : False).elim | (exfalso; (try simp only [] at *); omega))) hx10 (by intro k h1 h2; first | exact h2 | exact .inr h2 | exact (h2 : False).elim | (exfalso; (try simp only [] at *); omega))), fun _ => ⟨[], rfl, (.inr ⟨_, hH7.ext (Ext.andThen (Ext.andThen (Ext.andThen (Ext.refl (fun k => w.heap.size ≤ k) _) hk8 (by intro k h1 h2; first | exact (h2 : False).elim | omega | ((try simp only [] at *); omega))) hx9 (by intro k h1 h2; first | exact (h2 : False).elim | omega | ((try simp only [] at *); omega))) hx10 (by intro k h1 h2; first | exact (h2 : False).elim | omega | ((try simp only [] at *); omega))) (fun k hk h => ⟨by omega, fun ht => by have := hTb k ht; omega, by omega⟩)⟩), fun z h => hs2 z (List.mem_cons_of_mem _ (ham z h))⟩⟩
      · refine X.opsEnd ?_
        refine X.condF rfl ?_
        refine X.skip ?_
        refine X.inBlock ?_
        have hab2 : absC (eqC B0 w0) y2 l' = (x, []) := by rw [← ha]; rfl
        have hz : x.2 = 0 := by simpa using h40
        refine hback [] _ _ ⟨rfl, rfl, trivial⟩ ⟨by rw [← hs1, sumC_cons y2 l', hab2, if_neg (by simpa using hz)], fun z h => hs2 z (List.mem_cons_of_mem _ (ham z h)), ((hBp.ext hx7 (fun h => (hsep _ (h)) rfl)).keep (hk8.step hx9 (by intros; (try simp only [] at *); omega))), ((hBq.ext hx7 (fun h => absurd (hUb _ (h)) (by (try simp only []); omega))).keep (hk8.step hx9 (by intros; (try simp only [] at *); omega))), (.inr ⟨_, hH7.ext (Ext.andThen (Ext.andThen (Ext.refl (fun k => w.heap.size ≤ k) _) hk8 (by intro k h1 h2; first | exact (h2 : False).elim | omega | ((try simp only [] at *); omega))) hx9 (by intro k h1 h2; first | exact (h2 : False).elim | omega | ((try simp only [] at *); omega))) (fun k hk h => ⟨by omega, fun ht => by have := hTb k ht; omega, by omega⟩)⟩), (Ext.andThen (Ext.andThen (Ext.andThen hE hx7 (by intro k h1 h2; first | exact h2 | exact .inr h2 | exact (h2 : False).elim | (exfalso; (try simp only [] at *); omega))) hk8 (by intro k h1 h2; first | exact h2 | exact .inr h2 | exact (h2 : False).elim | (exfalso; (try simp only [] at *); omega))) hx9 (by intro k h1 h2; first | exact h2 | exact .inr h2 | exact (h2 : False).elim | (exfalso; (try simp only [] at *); omega))), by omega⟩ (by simp only [List.length_cons, List.length_nil] at *; omega)
    · obtain ⟨m', rfl⟩ : ∃ m', m = y7 :: m' := by
        cases m with
        | nil => simp at h24
        | cons z l => exact ⟨l, by rw [hH7.head]⟩
      have hHy7 := hH7
      have hox : okC B0 w0 x := by unfold okC; rw [hah]; exact hoy
      have hoz := hs2 _ (List.mem_cons_of_mem _ (ham _ List.mem_cons_self))
      refine X.opw (X.wG rfl rfl rfl) rfl (X.loadNB Try.isAgg70 Try.sizeOf70 ((hBx.ext hx7 (fun h => absurd (hUb _ (h)) (by (try simp only []); omega))).keep (hk8.step hx9 (by intros; (try simp only [] at *); omega))) rfl rfl rfl) ?_
      refine X.opw (X.wG rfl rfl rfl) rfl (X.loadNB Try.isAgg70 Try.sizeOf70 hB9 rfl rfl rfl) ?_
      refine X.opE (X.wG rfl rfl rfl) rfl (X.callE (ahead_ok hox hoz (hCW.step (Ext.andThen (Ext.andThen (Ext.andThen (hE.mono hUB) hx7 (by intro k h1 h2; first | exact (h2 : False).elim | exact hUB _ (by omega) h2 | exact hUB _ (by omega) (.inr h2) | ((try simp only [] at *); omega))) hk8 (by intro k h1 h2; first | exact (h2 : False).elim | exact hUB _ (by omega) h2 | exact hUB _ (by omega) (.inr h2) | ((try simp only [] at *); omega))) hx9 (by intro k h1 h2; first | exact (h2 : False).elim | exact hUB _ (by omega) h2 | exact hUB _ (by omega) (.inr h2) | ((try simp only [] at *); omega))))) Try.call62 rfl rfl) ?_
      rintro _ w11 ⟨rfl, hk11⟩
      have hk11' := hk11.size
      refine X.opP (X.wG rfl rfl rfl) rfl rfl (X.neI rfl rfl) (fun h28 => ?_) (fun h28 => ?_)
      · have hab : absC (eqC B0 w0) x (y7 :: m') = (x, y7 :: m') := by rw [absC, eqC, if_neg (by simpa using h28)]
        refine X.opw X.wN rfl (X.pickF (v := .bool true) rfl rfl) ?_
        refine X.opsEnd ?_
        refine X.condT rfl ?_
        refine X.exit rfl ?_
        refine X.seq ?_
        refine X.region ?_
        refine X.opw X.wN rfl (X.fldB (j := 1) Try.underlying70 rfl rfl Try.sizeOf2 rfl) ?_
        refine X.opw X.wN rfl (X.load1B Try.isAgg2 ((hBx.ext hx7 (fun h => absurd (hUb _ (h)) (by (try simp only []); omega))).keep ((hk8.step hx9 (by intros; (try simp only [] at *); omega)).trans hk11)) rfl rfl) ?_
        refine X.opP X.wN rfl rfl (X.neI rfl rfl) (fun h40 => ?_) (fun h40 => ?_)
        · refine X.opsEnd ?_
          refine X.condT rfl ?_
          refine X.seq ?_
          refine X.region ?_
          refine X.opw X.wN rfl (X.loadNB Try.isAgg70 Try.sizeOf70 ((hBx.ext hx7 (fun h => absurd (hUb _ (h)) (by (try simp only []); omega))).keep ((hk8.step hx9 (by intros; (try simp only [] at *); omega)).trans hk11)) rfl rfl rfl) ?_
          refine X.opE X.wN rfl (X.storeNE Try.sizeOf70 ((hBq.ext hx7 (fun h => absurd (hUb _ (h)) (by (try simp only []); omega))).keep ((hk8.step hx9 (by intros; (try simp only [] at *); omega)).trans hk11)) rfl rfl rfl rfl (fun u hu => by simp at hu; rcases hu with rfl | rfl <;> rfl)) ?_
          rintro _ w12 ⟨hB12, hx12, hz12⟩
          refine X.opw X.wN rfl (X.assign rfl) ?_
          refine X.opsEnd ?_
          refine X.ret_unw (X.unwR2 Try.func63 Try.results63 (X.ResOk.cell rfl (X.lvN Try.isAgg70 Try.sizeOf70 hB12 rfl)) (show X.ResOk _ _ _ (.tmp 2) (.bool _) from rfl) ?_)
          have hab2 : absC (eqC B0 w0) y2 l' = (x, (y7 :: m')) := by rw [← ha]; exact hab
          have hz : x.2 ≠ 0 := by simpa using h40
          have hsm : sumC (eqC B0 w0) ys = x :: sumC (eqC B0 w0) (y7 :: m') := by rw [← hs1, sumC_cons, hab2, if_pos hz]
          rw [hsm]
          exact ⟨rfl, (Ext.andThen (Ext.andThen (Ext.andThen (Ext.andThen (Ext.andThen hE hx7 (by intro k h1 h2; first | exact h2 | exact .inr h2 | exact (h2 : False).elim | (exfalso; (try simp only [] at *); omega))) hk8 (by intro k h1 h2; first | exact h2 | exact .inr h2 | exact (h2 : False).elim | (exfalso; (try simp only [] at *); omega))) hx9 (by intro k h1 h2; first | exact h2 | exact .inr h2 | exact (h2 : False).elim | (exfalso; (try simp only [] at *); omega))) hk11 (by intro k h1 h2; first | exact h2 | exact .inr h2 | exact (h2 : False).elim | (exfalso; (try simp only [] at *); omega))) hx12 (by intro k h1 h2; first | exact h2 | exact .inr h2 | exact (h2 : False).elim | (exfalso; (try simp only [] at *); omega))), fun _ => ⟨(y7 :: m'), rfl, (.inr ⟨_, hH7.ext (Ext.andThen (Ext.andThen (Ext.andThen (Ext.andThen (Ext.refl (fun k => w.heap.size ≤ k) _) hk8 (by intro k h1 h2; first | exact (h2 : False).elim | omega | ((try simp only [] at *); omega))) hx9 (by intro k h1 h2; first | exact (h2 : False).elim | omega | ((try simp only [] at *); omega))) hk11 (by intro k h1 h2; first | exact (h2 : False).elim | omega | ((try simp only [] at *); omega))) hx12 (by intro k h1 h2; first | exact (h2 : False).elim | omega | ((try simp only [] at *); omega))) (fun k hk h => ⟨by omega, fun ht => by have := hTb k ht; omega, by omega⟩)⟩), fun z h => hs2 z (List.mem_cons_of_mem _ (ham z h))⟩⟩
        · refine X.opsEnd ?_
          refine X.condF rfl ?_
          refine X.skip ?_
          refine X.inBlock ?_
          have hab2 : absC (eqC B0 w0) y2 l' = (x, (y7 :: m')) := by rw [← ha]; exact hab
          have hz : x.2 = 0 := by simpa using h40
          refine hback (y7 :: m') _ _ ⟨rfl, rfl, trivial⟩ ⟨by rw [← hs1, sumC_cons y2 l', hab2, if_neg (by simpa using hz)], fun z h => hs2 z (List.mem_cons_of_mem _ (ham z h)), ((hBp.ext hx7 (fun h => (hsep _ (h)) rfl)).keep ((hk8.step hx9 (by intros; (try simp only [] at *); omega)).trans hk11)), ((hBq.ext hx7 (fun h => absurd (hUb _ (h)) (by (try simp only []); omega))).keep ((hk8.step hx9 (by intros; (try simp only [] at *); omega)).trans hk11)), (.inr ⟨_, hH7.ext (Ext.andThen (Ext.andThen (Ext.andThen (Ext.refl (fun k => w.heap.size ≤ k) _) hk8 (by intro k h1 h2; first | exact (h2 : False).elim | omega | ((try simp only [] at *); omega))) hx9 (by intro k h1 h2; first | exact (h2 : False).elim | omega | ((try simp only [] at *); omega))) hk11 (by intro k h1 h2; first | exact (h2 : False).elim | omega | ((try simp only [] at *); omega))) (fun k hk h => ⟨by omega, fun ht => by have := hTb k ht; omega, by omega⟩)⟩), (Ext.andThen (Ext.andThen (Ext.andThen (Ext.andThen hE hx7 (by intro k h1 h2; first | exact h2 | exact .inr h2 | exact (h2 : False).elim | (exfalso; (try simp only [] at *); omega))) hk8 (by intro k h1 h2; first | exact h2 | exact .inr h2 | exact (h2 : False).elim | (exfalso; (try simp only [] at *); omega))) hx9 (by intro k h1 h2; first | exact h2 | exact .inr h2 | exact (h2 : False).elim | (exfalso; (try simp only [] at *); omega))) hk11 (by intro k h1 h2; first | exact h2 | exact .inr h2 | exact (h2 : False).elim | (exfalso; (try simp only [] at *); omega))), by omega⟩ (by simp only [List.length_cons, List.length_nil] at *; omega)
      · have hab : absC (eqC B0 w0) x (y7 :: m') = absC (eqC B0 w0) (x.1, IntKind.i64.wrap (x.2 + y7.2)) m' := by rw [absC, eqC, if_pos (by simpa using h28)]
        refine X.opw X.wN rfl (X.pickF (v := .bool false) rfl rfl) ?_
        refine X.opsEnd ?_
        refine X.condF rfl ?_
        refine X.skip ?_
        refine X.seq ?_
        refine X.region ?_
        refine X.opw X.wN rfl (X.fldB (j := 1) Try.underlying70 rfl rfl Try.sizeOf2 rfl) ?_
        refine X.opw X.wN rfl (X.load1B Try.isAgg2 ((hBx.ext hx7 (fun h => absurd (hUb _ (h)) (by (try simp only []); omega))).keep ((hk8.step hx9 (by intros; (try simp only [] at *); omega)).trans hk11)) rfl rfl) ?_
        refine X.opw X.wN rfl (X.fldB (j := 1) Try.underlying70 rfl rfl Try.sizeOf2 rfl) ?_
        refine X.opw X.wN rfl (X.load1B Try.isAgg2 (hB9.keep hk11) rfl rfl) ?_
        refine X.opw X.wN rfl (X.add (c := IntKind.i64.wrap (x.2 + _)) rfl rfl rfl) ?_
        refine X.opw X.wN rfl (X.fldB (j := 1) Try.underlying70 rfl rfl Try.sizeOf2 rfl) ?_
        refine X.opE X.wN rfl (X.storeE Try.sizeOf2 ((hBx.ext hx7 (fun h => absurd (hUb _ (h)) (by (try simp only []); omega))).keep ((hk8.step hx9 (by intros; (try simp only [] at *); omega)).trans hk11)) rfl rfl rfl rfl) ?_
        rintro _ w13 ⟨hB13, hx13, hz13⟩
        refine X.opsEnd ?_
        refine X.region ?_
        refine X.opw X.wN rfl (X.load1B Try.isAgg103 (((hBp.ext hx7 (fun h => (hsep _ (h)) rfl)).keep ((hk8.step hx9 (by intros; (try simp only [] at *); omega)).trans hk11)).ext hx13 (by intros; (try simp only []); omega)) rfl rfl) ?_
        refine X.opE X.wN rfl (X.callE (cpass_c _ (hHy7.ext (Ext.andThen (Ext.andThen (Ext.andThen (Ext.andThen (Ext.refl (fun k => w.heap.size ≤ k) _) hk8 (by intro k h1 h2; first | exact (h2 : False).elim | omega | ((try simp only [] at *); omega))) hx9 (by intro k h1 h2; first | exact (h2 : False).elim | omega | ((try simp only [] at *); omega))) hk11 (by intro k h1 h2; first | exact (h2 : False).elim | omega | ((try simp only [] at *); omega))) hx13 (by intro k h1 h2; first | exact (h2 : False).elim | omega | ((try simp only [] at *); omega))) (fun k hk h => ⟨by omega, fun ht => by have := hTb k ht; omega, by omega⟩)) hBh hTh) Try.call65 rfl rfl) ?_
        rintro _ w14 ⟨rfl, hH14, hx14⟩
        have hx14' := hx14.size
        refine X.opsEnd ?_
        refine X.inBlock ?_
        refine hback2 ((x.1, IntKind.i64.wrap (x.2 + y7.2)), m') _ _ ⟨rfl, rfl, rfl, trivial⟩ ⟨hab.symm.trans ha, hah, fun z h => ham z (List.mem_cons_of_mem _ h), Nat.le_of_succ_le hal, (hB13.ext hx14 (fun h => absurd (hUb _ (.inr h)) (by (try simp only []); omega))), ((((hBp.ext hx7 (fun h => (hsep _ (h)) rfl)).keep ((hk8.step hx9 (by intros; (try simp only [] at *); omega)).trans hk11)).ext hx13 (by intros; (try simp only []); omega)).ext hx14 (fun h => (hsep _ (.inr h)) rfl)), ((((hBq.ext hx7 (fun h => absurd (hUb _ (h)) (by (try simp only []); omega))).keep ((hk8.step hx9 (by intros; (try simp only [] at *); omega)).trans hk11)).ext hx13 (by intros; (try simp only []); omega)).ext hx14 (fun h => absurd (hUb _ (.inr h)) (by (try simp only []); omega))), hH14, (Ext.andThen (Ext.andThen (Ext.andThen (Ext.andThen (Ext.andThen (Ext.andThen hE hx7 (by intro k h1 h2; first | exact h2 | exact .inr h2 | exact (h2 : False).elim | (exfalso; (try simp only [] at *); omega))) hk8 (by intro k h1 h2; first | exact h2 | exact .inr h2 | exact (h2 : False).elim | (exfalso; (try simp only [] at *); omega))) hx9 (by intro k h1 h2; first | exact h2 | exact .inr h2 | exact (h2 : False).elim | (exfalso; (try simp only [] at *); omega))) hk11 (by intro k h1 h2; first | exact h2 | exact .inr h2 | exact (h2 : False).elim | (exfalso; (try simp only [] at *); omega))) hx13 (by intro k h1 h2; first | exact h2 | exact .inr h2 | exact (h2 : False).elim | (exfalso; (try simp only [] at *); omega))) hx14 (by intro k h1 h2; first | exact h2 | exact .inr h2 | exact (h2 : False).elim | (exfalso; (try simp only [] at *); omega))), by omega, by omega⟩ (by simp)
end Go.Proofs.Ytgfficbkajcdpaa

namespace Go.Proofs.Ytgfficbkajcdpaa
open Go Go.Proofs.Ytgfficbkajcdpaa.X
set_option linter.unusedVariables false
set_option linter.unusedSimpArgs false
theorem mgCC_mem {lt : CT → CT → Bool} {n : Nat} : ∀ (t : Nat) (L : Nat → List CT), totLC L n = t → ∀ x, x ∈ mgCC lt n L → ∃ j, j < n ∧ x ∈ L j
  | 0, L, h, x, hx => by rw [mgCC, h] at hx; simp [mgFC] at hx
  | t + 1, L, h, x, hx => by
    cases hp : pkC lt L n with
    | none => rw [mgCC_none hp] at hx; simp at hx
    | some q =>
      obtain ⟨i, y⟩ := q
      rw [mgCC_some hp] at hx
      obtain ⟨h1, l, h2⟩ := pkC_some hp
      have h3 := totLC_upd h2 n
      rw [if_pos h1] at h3
      rcases List.mem_cons.1 hx with rfl | hx
      · exact ⟨i, h1, by rw [h2]; exact List.mem_cons_self⟩
      · obtain ⟨j, hj, hm⟩ := mgCC_mem t (updLC L i) (by omega) x hx
        exact ⟨j, hj, updLC_mem hm⟩
theorem csum_stp {B B0 a b hb c0 : Nat} {w0 : World} {Tt : Nat → Prop} {ys : List CT} {w : World} (h0 : Blk w c0 [ptrV hb] 103) (hd : HdC B Tt hb ys w) (hBa : B ≤ a) (hbw : b ≤ w.heap.size) (hTb : ∀ k, (Tt k ∨ k = hb) → a ≤ k ∧ k < b) (hc0 : a ≤ c0 ∧ c0 < b) (hTh : ¬ Tt hb) (hsep : ∀ k, (Tt k ∨ k = hb) → k ≠ c0) (hB0 : B0 ≤ B) (hCW : CWc B0 w0 w) (hok : ∀ x, x ∈ ys → okC B0 w0 x) :
    Stp Try.prog evC zC B (fun k => a ≤ k ∧ k < b) (.func (.func 63) #[] #[ptrV c0]) (sumC (eqC B0 w0) ys) w := by
  refine ⟨fun xs w => ∃ ys, xs = sumC (eqC B0 w0) ys ∧ b ≤ w.heap.size ∧ Blk w c0 [ptrV hb] 103 ∧ HdC B Tt hb ys w ∧ CWc B0 w0 w ∧ (∀ x, x ∈ ys → okC B0 w0 x), ⟨ys, rfl, hbw, h0, hd, hCW, hok⟩, ?_, ?_⟩
  · rintro xs w w' ⟨ys, g1, g2, g3, g4, g5, g6⟩ ha
    have hz := ha.size
    exact ⟨ys, g1, by omega, ha.blk g3 hc0, g4.ext ha fun k _ hk => ⟨hk.1, fun h => hk.2 (hTb k (.inl h)), fun h => hk.2 (hTb k (.inr h))⟩, g5.step (Ext.mono ha fun k _ h => Nat.le_trans hB0 h.1), g6⟩
  · rintro xs w ⟨ys, rfl, g2, g3, g4, g5, g6⟩
    refine YC.of_ret (args := []) (cap := [_]) ((CSum1_c w g3 g4 (by omega) (by have := hTb hb (.inr rfl); omega) (by have := hTb hb (.inr rfl); omega) hTh (fun k hk => by have := hTb k (.inl hk); omega) (fun k hk => by have := hTb k (.inl hk); omega) hB0 hsep g5 g6).mono ?_) Try.call63
    rintro r w' ⟨rfl, hx, hn'⟩
    have hz := hx.size
    refine ⟨rfl, hx.mono fun k _ hk => hTb k hk, fun hne => ?_⟩
    obtain ⟨ys', q1, q2, q3⟩ := hn' hne
    exact ⟨ys', q1, by omega, g3.ext hx (fun h => hsep _ h rfl), q2, g5.step (hx.mono fun k _ h => by have := hTb k h; omega), q3⟩
theorem CVC.isC {B : Nat} {T : Nat → Prop} {c : Value} {xs : List CT} {w : World} (h : CVC B T c xs w) : IsCC c := h.elim (fun h => .inl h.1) (fun ⟨p, h, _⟩ => .inr ⟨p, h⟩)
theorem CVC.keep {B : Nat} {T : Nat → Prop} {c : Value} {xs : List CT} {w w' : World} (h : CVC B T c xs w) (k : Keep w w') : CVC B T c xs w' := h.agree (Agree.of_keep k)
-- f44 "pedigree/merge.Sum" params [97] results [72] -> [(ResultVar.tmp 2)] nfree 0 ntmps 12 names ["l", "l", 
set_option maxHeartbeats 4000000 in
set_option maxRecDepth 100000 in
theorem CSum_c {B B0 a n : Nat} {w0 : World} {Tj : Nat → Nat → Prop} {L : Nat → List CT} {lo hi : Nat} {A : Option Addr} {c : Nat} {cs : List Value} (w : World) (hs : Sl KR1 lo hi w A n cs) (hn : n ≤ 1000000) (hBa : B ≤ a) (haw : a ≤ w.heap.size)
    (hT : ∀ j, j < n → ∀ k, Tj j k → a ≤ k ∧ k < w.heap.size) (hdis : ∀ i j, i < n → j < n → i ≠ j → ∀ k, Tj i k → ¬ Tj j k) (hcv : ∀ (j : Nat) y, cs[j]? = some y → CVC B (Tj j) y (L j) w) (hB0 : B0 ≤ B) (hCW : CWc B0 w0 w) (hok : ∀ j, j < n → ∀ x, x ∈ L j → okC B0 w0 x) :
    Ret Try.prog 44 #[.slice A n c] w fun r w' => (∃ p, r = .iface 108 p) ∧ CVC B (fun k => a ≤ k ∧ k < w'.heap.size) r (sumC (eqC B0 w0) (mgCC (ltC B0 w0) n L)) w' ∧ Keep w w' := by
  refine X.enter Try.func44 rfl Try.ntmps44 rfl ?_
  refine X.seq ?_
  refine X.region ?_
  refine X.opw X.wN rfl (X.assign rfl) ?_
  refine X.opsEnd ?_
  refine X.seq ?_
  refine X.region ?_
  refine X.opw X.wN rfl (X.move (v := .slice _ _ _) rfl) ?_
  refine X.opE X.wN rfl (X.callE (CMerge_c (ok := okC B0 w0) (lt := ltC B0 w0) (CW := CWc B0 w0) _ hs hn hBa (by omega) hT hdis hcv hok hCW (fun w w' h x => h.step (x.mono fun k _ h => Nat.le_trans hB0 h)) (fun x y wa h1 h2 h3 => ahead_cmp x y wa h1 h2 h3)) Try.call61 rfl rfl) ?_
  rintro _ w1 ⟨⟨p1, rfl⟩, hC1, hk1⟩
  have hk1' := hk1.size
  refine X.opw X.wN rfl (X.buildB (vs := [(0, .iface 108 p1)]) (cs := #[.iface 108 p1, .slice none 0 0, .int .i64 0, .bool false, .bool false]) rfl (cbuild_hd _ (CVC.isC hC1))) ?_
  refine X.opE X.wN rfl (X.boxE rfl rfl) ?_
  rintro _ w2 ⟨rfl, hB2, hk2, hz2⟩
  refine X.opE X.wN rfl (X.allocE Try.zeroValue103 rfl) ?_
  rintro _ w3 ⟨rfl, hB3, hk3, hz3⟩
  refine X.opE X.wN rfl (X.storeE Try.sizeOf103 hB3 rfl rfl rfl rfl) ?_
  rintro _ w4 ⟨hB4, hx4, hz4⟩
  refine X.opsEnd ?_
  refine X.seq ?_
  refine X.region ?_
  refine X.opw X.wN rfl (X.mkFunc rfl) ?_
  refine X.opw X.wN rfl (X.buildB (vs := [(0, .func (.func 63) #[] #[ptrV (w2.heap.size)])]) (cs := #[.func (.func 63) #[] #[ptrV (w2.heap.size)], .bool false]) rfl (by kernel_rfl)) ?_
  refine X.opE X.wN rfl (X.boxE rfl rfl) ?_
  rintro _ w5 ⟨rfl, hB5, hk5, hz5⟩
  refine X.opw X.wN rfl (X.mkIface Try.underlying108 rfl rfl) ?_
  refine X.opw X.wN rfl (X.assign rfl) ?_
  refine X.opsEnd ?_
  refine X.ret1 Try.func44 Try.results44 rfl ?_
  refine ⟨⟨_, rfl⟩, ?_, ((((hk1.trans hk2).trans hk3).step hx4 (by intros; (try simp only [] at *); omega)).trans hk5)⟩
  exact CVC.wide (ccur_made (a := a) (b := w4.heap.size) (csum_stp (Tt := fun k => a ≤ k ∧ k < w1.heap.size) (hB4.keep hk5) (.inl ⟨_, zC, (hB2.keep ((hk3.step hx4 (by intros; (try simp only [] at *); omega)).trans hk5)), (hC1.keep (((hk2.trans hk3).step hx4 (by intros; (try simp only [] at *); omega)).trans hk5))⟩) hBa (by omega) (fun k hk => by (try simp only [] at *); omega) (by omega) (by (try simp only []); omega) (fun k hk => by (try simp only [] at *); omega) hB0 (hCW.step (((((hk1.trans hk2).trans hk3).step hx4 (by intros; (try simp only [] at *); omega)).trans hk5).mono fun _ _ h => h.elim)) (fun x hx => by
    obtain ⟨j, hj, hm⟩ := mgCC_mem _ L rfl x hx
    exact hok j hj x hm)) hB5 (by omega) (Nat.le_refl _) (by omega)) (fun k hk => by omega)
end Go.Proofs.Ytgfficbkajcdpaa

namespace Go.Proofs.Ytgfficbkajcdpaa
open Go Go.Proofs.Ytgfficbkajcdpaa.X
set_option linter.unusedVariables false
set_option linter.unusedSimpArgs false
theorem ERw : ElemInfo Try.prog 24 1 24 := ElemInfo.of (z := .slice none 0 0) (by kernel_rfl) rfl rfl rfl
theorem EIf : ElemInfo Try.prog 33 1 16 := ElemInfo.of (z := .nilIface) (by kernel_rfl) rfl rfl rfl
theorem rows_snoc {lo hi : Nat} {w : World} : ∀ {vs : List Value} {ls : List (List TH)} {A : Option Addr} {n c : Nat} {l : List TH}, SlRows KTh lo hi w vs ls → n ≤ c → Sl KTh lo hi w A n l → SlRows KTh lo hi w (vs ++ [.slice A n c]) (ls ++ [l])
  | [], [], _, _, _, _, _, h1, h2 => ⟨⟨_, _, _, rfl, h1, h2⟩, trivial⟩
  | _ :: _, _ :: _, _, _, _, _, h, h1, h2 => ⟨h.1, rows_snoc h.2 h1 h2⟩
  | [], _ :: _, _, _, _, _, h, _, _ => h.elim
  | _ :: _, [], _, _, _, _, h, _, _ => h.elim
theorem getV {vs : List Value} {n : Nat} (i : Nat) (h : vs.length = n) (hi : i < n) : ∃ v, vs[i]? = some v := ⟨vs[i]'(by omega), List.getElem?_eq_getElem (by omega)⟩
-- f12 "pedigree/pedigreelaw09.cut" params [22] results [22] -> [(ResultVar.tmp 2)] nfree 0 ntmps 24 names ["l
set_option maxHeartbeats 4000000 in
set_option maxRecDepth 100000 in
theorem cut_c {lo hi lo2 hi2 : Nat} {A : Option Addr} {n c : Nat} {vs : List Value} {ls : List (List TH)} (w : World) (hs : Sl KR1 lo hi w A n vs) (hr : SlRows KTh lo2 hi2 w vs ls) (hhi2 : hi2 ≤ w.heap.size) : Ret Try.prog 12 #[.slice A n c] w fun r w' => ∃ us qs A' c', r = .slice A' us.length c' ∧ us.length ≤ c' ∧ Sl KR1 0 w'.heap.size w' A' us.length us ∧ SlRows KTh lo2 hi2 w' us qs ∧ us.length = us.length ∧ us.length ≤ 6 ∧ (∀ l ∈ qs, l.length ≤ 30) ∧ Keep w w' := by
  have hl := hs.len
  have hrl := hr.len
  refine X.enter Try.func12 rfl Try.ntmps12 rfl ?_
  refine X.seq ?_
  refine X.region ?_
  refine X.opw X.wN rfl (X.assign rfl) ?_
  refine X.opsEnd ?_
  refine X.seq ?_
  refine X.region ?_
  refine X.opw X.wN rfl (X.assign rfl) ?_
  refine X.opsEnd ?_
  refine X.seq ?_
  refine X.seq ?_
  refine X.region ?_
  refine X.opw X.wN rfl (X.assign rfl) ?_
  refine X.opsEnd ?_
  refine X.block ?_
  -- LOOP live: 0=l, 3=out*, 4=i*
  refine X.loopL (σ := Nat × Value × List Value × List (List TH)) (fun s => [(0, .slice A n c), (3, s.2.1), (4, .int .i64 (s.1 : Int))]) (fun s w' => s.1 ≤ n ∧ s.1 ≤ 6 ∧ s.2.2.1.length = s.1 ∧ (∀ l ∈ s.2.2.2, l.length ≤ 30) ∧ Mine KR1 24 (fun k => w.heap.size ≤ k) 0 0 w' s.2.1 s.2.2.1 ∧ SlRows KTh lo2 hi2 w' s.2.2.1 s.2.2.2 ∧ Keep w w') (fun s => n - s.1) (0, _, [], []) ⟨rfl, rfl, rfl, trivial⟩ ⟨Nat.zero_le _, Nat.zero_le _, rfl, fun l h => by simp at h, Mine.nil _ _ _ _ _ _, trivial, (Keep.refl _)⟩ ?_
  rintro ⟨i, v, us, qs⟩ b0 wl ⟨hi, hi6, hul, hqs, hM0, hrw, hk⟩ hback
  dsimp only
  simp only at hi hi6 hul hqs hM0 hrw
  have hk' := hk.size
  refine X.seq ?_
  refine X.seq ?_
  refine X.region ?_
  refine X.opw X.wN rfl (X.move (v := .int .i64 _) rfl) ?_
  refine X.opw X.wN rfl (X.move (v := .slice _ _ _) rfl) ?_
  refine X.opw X.wN rfl (X.lenSl Try.underlying22 rfl) ?_
  refine X.opP X.wN rfl rfl (X.lss rfl rfl) (fun h8 => ?_) (fun h8 => ?_)
  · refine X.opw X.wN rfl (X.move (v := .bool true) rfl) ?_
    refine X.opw (X.wG rfl rfl rfl) rfl (X.move (v := .int .i64 _) rfl) ?_
    refine X.opP (X.wG rfl rfl rfl) rfl rfl (X.lss rfl rfl) (fun h11 => ?_) (fun h11 => ?_)
    · obtain ⟨vi, hvi⟩ := getV i hl (by omega)
      obtain ⟨li, Ai, ni, ci, hli, rfl, hnci, hsi⟩ := hr.get hvi
      refine X.opw X.wN rfl (X.pickT (v := .bool true) rfl rfl) ?_
      refine X.opsEnd ?_
      refine X.condT rfl ?_
      refine X.skip ?_
      refine X.seq ?_
      refine X.block ?_
      refine X.region ?_
      refine X.opw X.wN rfl (X.move rfl) ?_
      refine X.opw X.wN rfl (X.move (v := .slice _ _ _) rfl) ?_
      refine X.opw X.wN rfl (X.move (v := .int .i64 _) rfl) ?_
      refine X.opw X.wN rfl (X.idxS (hs.keep hk) Try.underlying22 Try.sizeOf24 rfl rfl ⟨by omega, by omega⟩) ?_
      refine X.opw X.wN rfl (X.loadS Try.isAgg24 (hs.keep hk) hvi rfl (fun _ h => by rw [h.1]; rfl)) ?_
      refine X.opE X.wN rfl (X.callE (short_c _ (hsi.keep hk) (by omega)) Try.call19 rfl rfl) ?_
      rintro _ w1 ⟨m1, rfl, hmc1, hm31, hs1, hk1⟩
      have hk1' := hk1.size
      refine X.opE X.wN rfl (X.litKF KR1_flat (K := KR1) (xs := [Operand.tmp 20]) (vs := [.slice Ai m1 ci]) (ys := [.slice Ai m1 ci]) Try.underlying22 Try.sizeOf24 Try.zeroValue24 rfl rfl rfl rfl rfl (reps_1 rfl rfl)) ?_
      rintro _ w2 ⟨rfl, hs2, hB2, hk2, hz2⟩
      refine X.opE X.wN rfl (X.appE (K := KR1) (S := fun k => w.heap.size ≤ k) KR1_flat Try.underlying22 ERw rfl rfl (hM0.keep (hk1.trans hk2)) hs2 (by (try simp only [List.length_append, List.length_cons, List.length_nil, List.length_take, List.length_drop, List.length_map, List.length_range]); omega) (by intros; (try simp only [] at *); omega)) ?_
      rintro v3 w3 ⟨hM3, hx3⟩
      have hx3' := hx3.size
      refine X.opw X.wN rfl (X.assign rfl) ?_
      refine X.opsEnd ?_
      refine X.inBlock ?_
      refine X.region ?_
      refine X.opw X.wN rfl (X.move (v := .int .i64 _) rfl) ?_
      refine X.opw X.wN rfl (X.add rfl rfl (X.w_i64 (by omega))) ?_
      refine X.opw X.wN rfl (X.assign (v := .int .i64 _) rfl) ?_
      refine X.opsEnd ?_
      refine hback (i + 1, _, us ++ [.slice Ai m1 ci], qs ++ [li.take 30]) _ _ ⟨rfl, rfl, rfl, trivial⟩ ⟨by dsimp only; omega, by dsimp only; omega, by dsimp only; rw [List.length_append, hul]; rfl, fun l h => (List.mem_append.1 h).elim (hqs l) (fun h => by rw [List.mem_singleton.1 h, List.length_take]; omega), hM3, rows_snoc (SlRows.ext hx3 (by intro k h1 h2; (try simp only []); omega) (SlRows.keep hk2 (SlRows.keep hk1 hrw))) (by omega) ((hs1.keep hk2).ext hx3 (by intros; (try simp only []); omega)), (((hk.trans hk1).trans hk2).step hx3 (by intros; (try simp only [] at *); omega))⟩ (by dsimp only; omega)
    · refine X.opw X.wN rfl (X.pickT (v := .bool false) rfl rfl) ?_
      refine X.opsEnd ?_
      refine X.condF rfl ?_
      refine X.exit rfl ?_
      refine X.seq ?_
      refine X.region ?_
      refine X.opw X.wN rfl (X.move rfl) ?_
      refine X.opw X.wN rfl (X.assign rfl) ?_
      refine X.opsEnd ?_
      refine X.ret1 Try.func12 Try.results12 rfl ?_
      obtain ⟨A', c', e, hc', hs'⟩ := hM0.slF KR1_flat 0 (fun _ _ => Nat.zero_le _)
      exact ⟨us, qs, A', c', e, hc', hs', hrw, rfl, by omega, hqs, hk⟩
  · refine X.opw X.wN rfl (X.move (v := .bool false) rfl) ?_
    refine X.opS rfl rfl rfl rfl rfl ?_
    refine X.opS rfl rfl rfl rfl rfl ?_
    refine X.opw X.wN rfl (X.pickF (v := .bool false) rfl rfl) ?_
    refine X.opsEnd ?_
    refine X.condF rfl ?_
    refine X.exit rfl ?_
    refine X.seq ?_
    refine X.region ?_
    refine X.opw X.wN rfl (X.move rfl) ?_
    refine X.opw X.wN rfl (X.assign rfl) ?_
    refine X.opsEnd ?_
    refine X.ret1 Try.func12 Try.results12 rfl ?_
    obtain ⟨A', c', e, hc', hs'⟩ := hM0.slF KR1_flat 0 (fun _ _ => Nat.zero_le _)
    exact ⟨us, qs, A', c', e, hc', hs', hrw, rfl, by omega, hqs, hk⟩
-- f18 "pedigree/pedigreelaw09.cursors" params [22] results [36] -> [(ResultVar.tmp 2)] nfree 0 ntmps 20 names
set_option maxHeartbeats 4000000 in
set_option maxRecDepth 100000 in
theorem cursors_c {lo hi lo2 hi2 : Nat} {A : Option Addr} {n c : Nat} {vs : List Value} {ls : List (List TH)} (w : World) (hs : Sl KR1 lo hi w A n vs) (hr : SlRows KTh lo2 hi2 w vs ls) (hn : n ≤ 1000) (hhi2 : hi2 ≤ w.heap.size) (hls : ∀ l ∈ ls, l.length ≤ 30) : Ret Try.prog 18 #[.slice A n c] w fun r w' => ∃ (cs : List Value) (A' : Option Addr) (c' : Nat) (Tj : Nat → Nat → Prop), r = .slice A' n c' ∧ n ≤ c' ∧ Sl KR1 0 w'.heap.size w' A' n cs ∧ (∀ j, j < n → ∀ k, Tj j k → w.heap.size ≤ k ∧ k < w'.heap.size) ∧ (∀ i j, i < n → j < n → i ≠ j → ∀ k, Tj i k → ¬ Tj j k) ∧ (∀ (j : Nat) y, cs[j]? = some y → CV w.heap.size (Tj j) y (LL ls j) w') ∧ Keep w w' := by
  have hl := hs.len
  have hrl := hr.len
  refine X.enter Try.func18 rfl Try.ntmps18 rfl ?_
  refine X.seq ?_
  refine X.region ?_
  refine X.opw X.wN rfl (X.assign rfl) ?_
  refine X.opsEnd ?_
  refine X.seq ?_
  refine X.region ?_
  refine X.opw X.wN rfl (X.assign rfl) ?_
  refine X.opsEnd ?_
  refine X.seq ?_
  refine X.seq ?_
  refine X.region ?_
  refine X.opw X.wN rfl (X.assign rfl) ?_
  refine X.opsEnd ?_
  refine X.block ?_
  -- LOOP live: 0=l, 3=out*, 4=i*
  refine X.loopL (σ := Nat × Value × List Value × List (Nat × Nat)) (fun s => [(0, .slice A n c), (3, s.2.1), (4, .int .i64 (s.1 : Int))]) (fun s w' => s.1 ≤ n ∧ s.2.2.1.length = s.1 ∧ s.2.2.2.length = s.1 ∧ Mine KR1 33 (fun k => w.heap.size ≤ k ∧ ∀ p, p ∈ s.2.2.2 → ¬ (p.1 ≤ k ∧ k < p.2)) 0 0 w' s.2.1 s.2.2.1 ∧ (∀ (j : Nat) y (p : Nat × Nat), s.2.2.1[j]? = some y → s.2.2.2[j]? = some p → CV w.heap.size (fun k => p.1 ≤ k ∧ k < p.2) y (LL ls j) w') ∧ (∀ p, p ∈ s.2.2.2 → w.heap.size ≤ p.1 ∧ p.2 ≤ w'.heap.size) ∧ s.2.2.2.Pairwise (fun p q => p.2 ≤ q.1) ∧ Keep w w') (fun s => n - s.1) (0, _, [], []) ⟨rfl, rfl, rfl, trivial⟩ ⟨Nat.zero_le _, rfl, rfl, Mine.nil _ _ _ _ _ _, fun j y p h => by simp at h, fun p h => by simp at h, List.Pairwise.nil, (Keep.refl _)⟩ ?_
  rintro ⟨i, v, cs, tb⟩ b0 wl ⟨hi, hcl, htl, hM0, hcv, htb, hpw, hk⟩ hback
  dsimp only
  simp only at hi hcl htl hM0 hcv htb hpw
  have hk' := hk.size
  refine X.seq ?_
  refine X.seq ?_
  refine X.region ?_
  refine X.opw X.wN rfl (X.move (v := .int .i64 _) rfl) ?_
  refine X.opw X.wN rfl (X.move (v := .slice _ _ _) rfl) ?_
  refine X.opw X.wN rfl (X.lenSl Try.underlying22 rfl) ?_
  refine X.opP X.wN rfl rfl (X.lss rfl rfl) (fun h8 => ?_) (fun h8 => ?_)
  · obtain ⟨vi, hvi⟩ := getV i hl (by omega)
    obtain ⟨li, Ai, ni, ci, hli, rfl, hnci, hsi⟩ := hr.get hvi
    have hlen30 := hls li (List.mem_of_getElem? hli)
    have hlil := hsi.len
    refine X.opsEnd ?_
    refine X.condT rfl ?_
    refine X.skip ?_
    refine X.seq ?_
    refine X.block ?_
    refine X.region ?_
    refine X.opw X.wN rfl (X.move rfl) ?_
    refine X.opw X.wN rfl (X.move (v := .slice _ _ _) rfl) ?_
    refine X.opw X.wN rfl (X.move (v := .int .i64 _) rfl) ?_
    refine X.opw X.wN rfl (X.idxS (hs.keep hk) Try.underlying22 Try.sizeOf24 rfl rfl ⟨by omega, by omega⟩) ?_
    refine X.opw X.wN rfl (X.loadS Try.isAgg24 (hs.keep hk) hvi rfl (fun _ h => by rw [h.1]; rfl)) ?_
    refine X.opE X.wN rfl (X.callE (Of_c w.heap.size _ (hsi.keep hk) (by omega) (by omega)) Try.call20 rfl rfl) ?_
    rintro _ w1 ⟨bm1, rfl, hC1, hk1⟩
    have hk1' := hk1.size
    refine X.opE X.wN rfl (X.litKF KR1_flat (K := KR1) (xs := [Operand.tmp 16]) (vs := [.iface 84 (.pointer (some ⟨bm1, 0, none⟩))]) (ys := [.iface 84 (.pointer (some ⟨bm1, 0, none⟩))]) Try.underlying36 Try.sizeOf33 Try.zeroValue33 rfl rfl rfl rfl rfl (reps_1 rfl rfl)) ?_
    rintro _ w2 ⟨rfl, hs2, hB2, hk2, hz2⟩
    have htb2 : ∀ p, p ∈ tb ++ [(wl.heap.size, w1.heap.size)] → w.heap.size ≤ p.1 ∧ p.2 ≤ w2.heap.size := fun p hp => (List.mem_append.1 hp).elim (fun h => by have := htb p h; omega) (fun h => by rw [List.mem_singleton.1 h]; (try simp only []); omega)
    refine X.opE X.wN rfl (X.appE (K := KR1) (S := fun k => w.heap.size ≤ k ∧ ∀ p, p ∈ (tb ++ [(wl.heap.size, w1.heap.size)]) → ¬ (p.1 ≤ k ∧ k < p.2)) KR1_flat Try.underlying36 EIf rfl rfl ((hM0.mono (T := fun k => w.heap.size ≤ k ∧ ∀ p, p ∈ (tb ++ [(wl.heap.size, w1.heap.size)]) → ¬ (p.1 ≤ k ∧ k < p.2)) (fun k hk hs => ⟨hs.1, fun p hp => (List.mem_append.1 hp).elim (hs.2 p) (fun hp => by rw [List.mem_singleton.1 hp]; (try simp only []); omega)⟩)).keep (hk1.trans hk2)) hs2 (by (try simp only [List.length_singleton]); omega) (fun k hk => ⟨by omega, fun p hp h => by have := htb2 p hp; omega⟩)) ?_
    rintro v3 w3 ⟨hM3, hx3⟩
    have hx3' := hx3.size
    refine X.opw X.wN rfl (X.assign rfl) ?_
    refine X.opsEnd ?_
    refine X.inBlock ?_
    refine X.region ?_
    refine X.opw X.wN rfl (X.move (v := .int .i64 _) rfl) ?_
    refine X.opw X.wN rfl (X.add rfl rfl (X.w_i64 (by omega))) ?_
    refine X.opw X.wN rfl (X.assign (v := .int .i64 _) rfl) ?_
    refine X.opsEnd ?_
    have hcv2 : ∀ (j : Nat) y (p : Nat × Nat), (cs ++ [(.iface 84 (.pointer (some ⟨bm1, 0, none⟩)))])[j]? = some y → (tb ++ [(wl.heap.size, w1.heap.size)])[j]? = some p → CV w.heap.size (fun k => p.1 ≤ k ∧ k < p.2) y (LL ls j) w3 := by
      intro j y p hy hp
      have hpm : p ∈ tb ++ [(wl.heap.size, w1.heap.size)] := List.mem_of_getElem? hp
      have hU : ∀ k, k < w3.heap.size → (w.heap.size ≤ k ∧ ∀ p, p ∈ tb ++ [(wl.heap.size, w1.heap.size)] → ¬ (p.1 ≤ k ∧ k < p.2)) → w.heap.size ≤ k ∧ ¬ (p.1 ≤ k ∧ k < p.2) := fun k _ h => ⟨h.1, h.2 p hpm⟩
      by_cases hj : j < cs.length
      · rw [List.getElem?_append_left hj] at hy
        rw [List.getElem?_append_left (by omega)] at hp
        exact ((hcv j y p hy hp).keep (hk1.trans hk2)).ext hx3 (fun k _ h => ⟨h.1, h.2 p hpm⟩)
      · rw [List.getElem?_append_right (by omega)] at hy hp
        have h0 : j - cs.length = 0 := by
          have := (List.getElem?_eq_some_iff.1 hy).1
          simp at this; omega
        rw [h0] at hy
        rw [show j - tb.length = 0 by omega] at hp
        simp at hy hp
        have hLL : LL ls j = li := by rw [show j = i by omega, LL, List.getD_eq_getElem?_getD, hli]; rfl
        rw [← hy, ← hp, hLL]
        exact (hC1.keep hk2).ext hx3 (fun k _ h => ⟨h.1, by rw [← hp] at hpm; exact h.2 _ hpm⟩)
    have hpw2 : (tb ++ [(wl.heap.size, w1.heap.size)]).Pairwise (fun p q => p.2 ≤ q.1) := by
      rw [List.pairwise_append]
      exact ⟨hpw, List.pairwise_singleton _ _, fun p hp q hq => by rw [List.mem_singleton.1 hq]; have := htb p hp; (try simp only []); omega⟩
    refine hback (i + 1, _, cs ++ [(.iface 84 (.pointer (some ⟨bm1, 0, none⟩)))], tb ++ [(wl.heap.size, w1.heap.size)]) _ _ ⟨rfl, rfl, rfl, trivial⟩ ⟨by dsimp only; omega, by dsimp only; rw [List.length_append, hcl]; rfl, by dsimp only; rw [List.length_append, htl]; rfl, hM3, hcv2, fun p hp => by have := htb2 p hp; omega, hpw2, (((hk.trans hk1).trans hk2).step hx3 (by intros; (try simp only [] at *); omega))⟩ (by dsimp only; omega)
  · refine X.opsEnd ?_
    refine X.condF rfl ?_
    refine X.exit rfl ?_
    refine X.seq ?_
    refine X.region ?_
    refine X.opw X.wN rfl (X.move rfl) ?_
    refine X.opw X.wN rfl (X.assign rfl) ?_
    refine X.opsEnd ?_
    refine X.ret1 Try.func18 Try.results18 rfl ?_
    obtain ⟨A', c', e, hc', hs'⟩ := hM0.slF KR1_flat 0 (fun _ _ => Nat.zero_le _)
    have hin : i = n := by omega
    rw [hcl, hin] at e hc' hs'
    refine ⟨cs, A', c', fun j k => ∃ p, tb[j]? = some p ∧ p.1 ≤ k ∧ k < p.2, e, hc', hs', fun j hj k ⟨p, h1, h2⟩ => by have := htb p (List.mem_of_getElem? h1); omega, ?_, ?_, hk⟩
    · rintro i j hi hj hne k ⟨p, h1, h2⟩ ⟨q, h3, h4⟩
      obtain ⟨g1, g2⟩ := List.getElem?_eq_some_iff.1 h1
      obtain ⟨g3, g4⟩ := List.getElem?_eq_some_iff.1 h3
      have hp := List.pairwise_iff_getElem.1 hpw
      rcases Nat.lt_or_ge i j with h5 | h5
      · have := hp i j g1 g3 h5; rw [g2, g4] at this; omega
      · have := hp j i g3 g1 (by omega); rw [g2, g4] at this; omega
    · intro j y hy
      have hjl := (List.getElem?_eq_some_iff.1 hy).1
      exact (hcv j y _ hy (List.getElem?_eq_getElem (by omega))).wide fun k hk => ⟨_, List.getElem?_eq_getElem (by omega), hk⟩
end Go.Proofs.Ytgfficbkajcdpaa

namespace Go.Proofs.Ytgfficbkajcdpaa
open Go Go.Proofs.Ytgfficbkajcdpaa.X
set_option linter.unusedVariables false
set_option linter.unusedSimpArgs false
def LLC (ls : List (List CT)) : Nat → List CT := fun j => ls.getD j []
theorem ERwC : ElemInfo Try.prog 64 1 24 := ElemInfo.of (z := .slice none 0 0) (by kernel_rfl) rfl rfl rfl
theorem EIfC : ElemInfo Try.prog 72 1 16 := ElemInfo.of (z := .nilIface) (by kernel_rfl) rfl rfl rfl
theorem rows_snocC {lo hi : Nat} {w : World} : ∀ {vs : List Value} {ls : List (List CT)} {A : Option Addr} {n c : Nat} {l : List CT}, SlRows KCt lo hi w vs ls → n ≤ c → Sl KCt lo hi w A n l → SlRows KCt lo hi w (vs ++ [.slice A n c]) (ls ++ [l])
  | [], [], _, _, _, _, _, h1, h2 => ⟨⟨_, _, _, rfl, h1, h2⟩, trivial⟩
  | _ :: _, _ :: _, _, _, _, _, h, h1, h2 => ⟨h.1, rows_snocC h.2 h1 h2⟩
  | [], _ :: _, _, _, _, _, h, _, _ => h.elim
  | _ :: _, [], _, _, _, _, h, _, _ => h.elim
-- f38 "pedigree/pedigreelaw09.counted" params [62] results [62] -> [(ResultVar.tmp 2)] nfree 0 ntmps 30 names
set_option maxHeartbeats 4000000 in
set_option maxRecDepth 100000 in
theorem counted_c (PX : CT → Prop) {lo hi lo2 hi2 : Nat} {A : Option Addr} {n c : Nat} {vs : List Value} {ls : List (List CT)} (w : World) (hs : Sl KR1 lo hi w A n vs) (hr : SlRows KCt lo2 hi2 w vs ls) (hhi2 : hi2 ≤ w.heap.size) (hpx : ∀ l ∈ ls, ∀ x, x ∈ l → PX x) : Ret Try.prog 38 #[.slice A n c] w fun r w' => ∃ us qs A' c', r = .slice A' us.length c' ∧ us.length ≤ c' ∧ Sl KR1 0 w'.heap.size w' A' us.length us ∧ SlRows KCt lo2 hi2 w' us qs ∧ us.length ≤ 6 ∧ (∀ l ∈ qs, l.length ≤ 30) ∧ (∀ l ∈ qs, ∀ x, x ∈ l → PX x) ∧ Keep w w' := by
  have hl := hs.len
  have hrl := hr.len
  refine X.enter Try.func38 rfl Try.ntmps38 rfl ?_
  refine X.seq ?_
  refine X.region ?_
  refine X.opw X.wN rfl (X.assign rfl) ?_
  refine X.opsEnd ?_
  refine X.seq ?_
  refine X.region ?_
  refine X.opw X.wN rfl (X.assign rfl) ?_
  refine X.opsEnd ?_
  refine X.seq ?_
  refine X.seq ?_
  refine X.region ?_
  refine X.opw X.wN rfl (X.assign rfl) ?_
  refine X.opsEnd ?_
  refine X.block ?_
  -- LOOP live: 0=l, 3=out*, 4=i*
  refine X.loopL (σ := Nat × Value × List Value × List (List CT)) (fun s => [(0, .slice A n c), (3, s.2.1), (4, .int .i64 (s.1 : Int))]) (fun s w' => s.1 ≤ n ∧ s.1 ≤ 6 ∧ s.2.2.1.length = s.1 ∧ (∀ l ∈ s.2.2.2, l.length ≤ 30) ∧ (∀ l ∈ s.2.2.2, ∀ x, x ∈ l → PX x) ∧ Mine KR1 64 (fun k => w.heap.size ≤ k) 0 0 w' s.2.1 s.2.2.1 ∧ SlRows KCt lo2 hi2 w' s.2.2.1 s.2.2.2 ∧ Keep w w') (fun s => n - s.1) (0, _, [], []) ⟨rfl, rfl, rfl, trivial⟩ ⟨Nat.zero_le _, Nat.zero_le _, rfl, fun l h => by simp at h, fun l h => by simp at h, Mine.nil _ _ _ _ _ _, trivial, (Keep.refl _)⟩ ?_
  rintro ⟨i, v, us, qs⟩ b0 wl ⟨hi, hi6, hul, hqs, hqx, hM0, hrw, hk⟩ hback
  dsimp only
  simp only at hi hi6 hul hqs hqx hM0 hrw
  have hk' := hk.size
  refine X.seq ?_
  refine X.seq ?_
  refine X.region ?_
  refine X.opw X.wN rfl (X.move (v := .int .i64 _) rfl) ?_
  refine X.opw X.wN rfl (X.move (v := .slice _ _ _) rfl) ?_
  refine X.opw X.wN rfl (X.lenSl Try.underlying62 rfl) ?_
  refine X.opP X.wN rfl rfl (X.lss rfl rfl) (fun h9 => ?_) (fun h9 => ?_)
  · refine X.opw X.wN rfl (X.move (v := .bool true) rfl) ?_
    refine X.opw (X.wG rfl rfl rfl) rfl (X.move (v := .int .i64 _) rfl) ?_
    refine X.opP (X.wG rfl rfl rfl) rfl rfl (X.lss rfl rfl) (fun h12 => ?_) (fun h12 => ?_)
    · obtain ⟨vi, hvi⟩ := getV i hl (by omega)
      obtain ⟨li, Ai, ni, ci, hli, rfl, hnci, hsi⟩ := hr.get hvi
      have hlil := hsi.len
      refine X.opw X.wN rfl (X.pickT (v := .bool true) rfl rfl) ?_
      refine X.opsEnd ?_
      refine X.condT rfl ?_
      refine X.skip ?_
      refine X.seq ?_
      refine X.block ?_
      refine X.seq ?_
      refine X.region ?_
      refine X.opw X.wN rfl (X.move (v := .slice _ _ _) rfl) ?_
      refine X.opw X.wN rfl (X.move (v := .int .i64 _) rfl) ?_
      refine X.opw X.wN rfl (X.idxS (hs.keep hk) Try.underlying62 Try.sizeOf64 rfl rfl ⟨by omega, by omega⟩) ?_
      refine X.opw X.wN rfl (X.loadS Try.isAgg64 (hs.keep hk) hvi rfl (fun _ h => by rw [h.1]; rfl)) ?_
      refine X.opw X.wN rfl (X.assign (v := .slice _ _ _) rfl) ?_
      refine X.opsEnd ?_
      refine X.seq ?_
      refine X.seq ?_
      refine X.region ?_
      refine X.opw X.wN rfl (X.move (v := .slice _ _ _) rfl) ?_
      refine X.opw X.wN rfl (X.lenSl Try.underlying64 rfl) ?_
      refine X.opP X.wN rfl rfl (X.gtr rfl rfl) (fun h22 => ?_) (fun h22 => ?_)
      · refine X.opsEnd ?_
        refine X.condT rfl ?_
        refine X.region ?_
        refine X.opw X.wN rfl (X.move (v := .slice _ _ _) rfl) ?_
        refine X.opw X.wN rfl (X.cutHr Try.underlying64 Try.sizeOf70 rfl rfl (by omega)) ?_
        refine X.opw X.wN rfl (X.assign (v := .slice _ _ _) rfl) ?_
        refine X.opsEnd ?_
        refine X.region ?_
        refine X.opw X.wN rfl (X.move rfl) ?_
        refine X.opw X.wN rfl (X.move (v := .slice _ _ _) rfl) ?_
        refine X.opE X.wN rfl (X.litKF KR1_flat (K := KR1) (xs := [Operand.tmp 26]) (vs := [.slice Ai 30 ci]) (ys := [.slice Ai 30 ci]) Try.underlying62 Try.sizeOf64 Try.zeroValue64 rfl rfl rfl rfl rfl (reps_1 rfl rfl)) ?_
        rintro _ w1 ⟨rfl, hs1, hB1, hk1, hz1⟩
        refine X.opE X.wN rfl (X.appE (K := KR1) (S := fun k => w.heap.size ≤ k) KR1_flat Try.underlying62 ERwC rfl rfl (hM0.keep hk1) hs1 (by (try simp only [List.length_append, List.length_cons, List.length_nil, List.length_take, List.length_drop, List.length_map, List.length_range]); omega) (by intros; (try simp only [] at *); omega)) ?_
        rintro v2 w2 ⟨hM2, hx2⟩
        have hx2' := hx2.size
        refine X.opw X.wN rfl (X.assign rfl) ?_
        refine X.opsEnd ?_
        refine X.inBlock ?_
        refine X.region ?_
        refine X.opw X.wN rfl (X.move (v := .int .i64 _) rfl) ?_
        refine X.opw X.wN rfl (X.add rfl rfl (X.w_i64 (by omega))) ?_
        refine X.opw X.wN rfl (X.assign (v := .int .i64 _) rfl) ?_
        refine X.opsEnd ?_
        refine hback (i + 1, _, us ++ [.slice Ai 30 ci], qs ++ [li.take 30]) _ _ ⟨rfl, rfl, rfl, trivial⟩ ⟨by dsimp only; omega, by dsimp only; omega, by dsimp only; rw [List.length_append, hul]; rfl, fun l h => (List.mem_append.1 h).elim (hqs l) (fun h => by rw [List.mem_singleton.1 h, List.length_take]; omega), fun l h => (List.mem_append.1 h).elim (hqx l) (fun h x hx => by rw [List.mem_singleton.1 h] at hx; exact hpx li (List.mem_of_getElem? hli) x (List.mem_of_mem_take hx)), hM2, rows_snocC (SlRows.ext hx2 (by intro k h1 h2; (try simp only []); omega) (SlRows.keep hk1 hrw)) (by omega) ((hsi.take 30 (by omega)).keep ((hk.trans hk1).step hx2 (by intros; (try simp only [] at *); omega))), ((hk.trans hk1).step hx2 (by intros; (try simp only [] at *); omega))⟩ (by dsimp only; omega)
      · refine X.opsEnd ?_
        refine X.condF rfl ?_
        refine X.skip ?_
        refine X.region ?_
        refine X.opw X.wN rfl (X.move rfl) ?_
        refine X.opw X.wN rfl (X.move (v := .slice _ _ _) rfl) ?_
        refine X.opE X.wN rfl (X.litKF KR1_flat (K := KR1) (xs := [Operand.tmp 26]) (vs := [.slice Ai ni ci]) (ys := [.slice Ai ni ci]) Try.underlying62 Try.sizeOf64 Try.zeroValue64 rfl rfl rfl rfl rfl (reps_1 rfl rfl)) ?_
        rintro _ w3 ⟨rfl, hs3, hB3, hk3, hz3⟩
        refine X.opE X.wN rfl (X.appE (K := KR1) (S := fun k => w.heap.size ≤ k) KR1_flat Try.underlying62 ERwC rfl rfl (hM0.keep hk3) hs3 (by (try simp only [List.length_append, List.length_cons, List.length_nil, List.length_take, List.length_drop, List.length_map, List.length_range]); omega) (by intros; (try simp only [] at *); omega)) ?_
        rintro v4 w4 ⟨hM4, hx4⟩
        have hx4' := hx4.size
        refine X.opw X.wN rfl (X.assign rfl) ?_
        refine X.opsEnd ?_
        refine X.inBlock ?_
        refine X.region ?_
        refine X.opw X.wN rfl (X.move (v := .int .i64 _) rfl) ?_
        refine X.opw X.wN rfl (X.add rfl rfl (X.w_i64 (by omega))) ?_
        refine X.opw X.wN rfl (X.assign (v := .int .i64 _) rfl) ?_
        refine X.opsEnd ?_
        refine hback (i + 1, _, us ++ [.slice Ai ni ci], qs ++ [li.take 30]) _ _ ⟨rfl, rfl, rfl, trivial⟩ ⟨by dsimp only; omega, by dsimp only; omega, by dsimp only; rw [List.length_append, hul]; rfl, fun l h => (List.mem_append.1 h).elim (hqs l) (fun h => by rw [List.mem_singleton.1 h, List.length_take]; omega), fun l h => (List.mem_append.1 h).elim (hqx l) (fun h x hx => by rw [List.mem_singleton.1 h] at hx; exact hpx li (List.mem_of_getElem? hli) x (List.mem_of_mem_take hx)), hM4, rows_snocC (SlRows.ext hx4 (by intro k h1 h2; (try simp only []); omega) (SlRows.keep hk3 hrw)) (by omega) ((show Sl KCt lo2 hi2 w Ai ni (li.take 30) by rw [List.take_of_length_le (by omega)]; exact hsi).keep ((hk.trans hk3).step hx4 (by intros; (try simp only [] at *); omega))), ((hk.trans hk3).step hx4 (by intros; (try simp only [] at *); omega))⟩ (by dsimp only; omega)
    · refine X.opw X.wN rfl (X.pickT (v := .bool false) rfl rfl) ?_
      refine X.opsEnd ?_
      refine X.condF rfl ?_
      refine X.exit rfl ?_
      refine X.seq ?_
      refine X.region ?_
      refine X.opw X.wN rfl (X.move rfl) ?_
      refine X.opw X.wN rfl (X.assign rfl) ?_
      refine X.opsEnd ?_
      refine X.ret1 Try.func38 Try.results38 rfl ?_
      obtain ⟨A', c', e, hc', hs'⟩ := hM0.slF KR1_flat 0 (fun _ _ => Nat.zero_le _)
      exact ⟨us, qs, A', c', e, hc', hs', hrw, by omega, hqs, hqx, hk⟩
  · refine X.opw X.wN rfl (X.move (v := .bool false) rfl) ?_
    refine X.opS rfl rfl rfl rfl rfl ?_
    refine X.opS rfl rfl rfl rfl rfl ?_
    refine X.opw X.wN rfl (X.pickF (v := .bool false) rfl rfl) ?_
    refine X.opsEnd ?_
    refine X.condF rfl ?_
    refine X.exit rfl ?_
    refine X.seq ?_
    refine X.region ?_
    refine X.opw X.wN rfl (X.move rfl) ?_
    refine X.opw X.wN rfl (X.assign rfl) ?_
    refine X.opsEnd ?_
    refine X.ret1 Try.func38 Try.results38 rfl ?_
    obtain ⟨A', c', e, hc', hs'⟩ := hM0.slF KR1_flat 0 (fun _ _ => Nat.zero_le _)
    exact ⟨us, qs, A', c', e, hc', hs', hrw, by omega, hqs, hqx, hk⟩
theorem CVC.ext {B : Nat} {T U : Nat → Prop} {c : Value} {xs : List CT} {w w' : World} (h : CVC B T c xs w) (x : Ext U w w') (hU : ∀ k, k < w.heap.size → U k → B ≤ k ∧ ¬ T k) : CVC B T c xs w' := h.agree (Agree.of_ext x hU)
-- f40 "pedigree/pedigreelaw09.sums" params [62] results [72] -> [(ResultVar.tmp 2)] nfree 0 ntmps 21 names ["
set_option maxHeartbeats 4000000 in
set_option maxRecDepth 100000 in
theorem sums_c {B B0 : Nat} {w0 : World} {lo hi lo2 hi2 : Nat} {A : Option Addr} {n c : Nat} {vs : List Value} {ls : List (List CT)} (w : World) (hs : Sl KR1 lo hi w A n vs) (hr : SlRows KCt lo2 hi2 w vs ls) (hn : n ≤ 1000) (hhi2 : hi2 ≤ w.heap.size) (hls : ∀ l ∈ ls, l.length ≤ 30) (hBw : B ≤ w.heap.size) (hB0 : B0 ≤ B) (hCW : CWc B0 w0 w) (hok : ∀ l ∈ ls, ∀ x, x ∈ l → okC B0 w0 x) :
    Ret Try.prog 40 #[.slice A n c] w fun r w' => (∃ p, r = .iface 108 p) ∧ CVC B (fun k => w.heap.size ≤ k ∧ k < w'.heap.size) r (sumC (eqC B0 w0) (mgCC (ltC B0 w0) n (LLC ls))) w' ∧ Keep w w' := by
  have hl := hs.len
  have hrl := hr.len
  refine X.enter Try.func40 rfl Try.ntmps40 rfl ?_
  refine X.seq ?_
  refine X.region ?_
  refine X.opw X.wN rfl (X.assign rfl) ?_
  refine X.opsEnd ?_
  refine X.seq ?_
  refine X.region ?_
  refine X.opw X.wN rfl (X.assign rfl) ?_
  refine X.opsEnd ?_
  refine X.seq ?_
  refine X.seq ?_
  refine X.region ?_
  refine X.opw X.wN rfl (X.assign rfl) ?_
  refine X.opsEnd ?_
  refine X.block ?_
  -- LOOP live: 0=l, 3=cs*, 4=i*
  refine X.loopL (σ := Nat × Value × List Value × List (Nat × Nat)) (fun s => [(0, .slice A n c), (3, s.2.1), (4, .int .i64 (s.1 : Int))]) (fun s w' => s.1 ≤ n ∧ s.2.2.1.length = s.1 ∧ s.2.2.2.length = s.1 ∧ Mine KR1 72 (fun k => w.heap.size ≤ k ∧ ∀ p, p ∈ s.2.2.2 → ¬ (p.1 ≤ k ∧ k < p.2)) 0 0 w' s.2.1 s.2.2.1 ∧ (∀ (j : Nat) y (p : Nat × Nat), s.2.2.1[j]? = some y → s.2.2.2[j]? = some p → CVC B (fun k => p.1 ≤ k ∧ k < p.2) y (LLC ls j) w') ∧ (∀ p, p ∈ s.2.2.2 → w.heap.size ≤ p.1 ∧ p.2 ≤ w'.heap.size) ∧ s.2.2.2.Pairwise (fun p q => p.2 ≤ q.1) ∧ Keep w w') (fun s => n - s.1) (0, _, [], []) ⟨rfl, rfl, rfl, trivial⟩ ⟨Nat.zero_le _, rfl, rfl, Mine.nil _ _ _ _ _ _, fun j y p h => by simp at h, fun p h => by simp at h, List.Pairwise.nil, (Keep.refl _)⟩ ?_
  rintro ⟨i, v, cs, tb⟩ b0 wl ⟨hi, hcl, htl, hM0, hcv, htb, hpw, hk⟩ hback
  dsimp only
  simp only at hi hcl htl hM0 hcv htb hpw
  have hk' := hk.size
  refine X.seq ?_
  refine X.seq ?_
  refine X.region ?_
  refine X.opw X.wN rfl (X.move (v := .int .i64 _) rfl) ?_
  refine X.opw X.wN rfl (X.move (v := .slice _ _ _) rfl) ?_
  refine X.opw X.wN rfl (X.lenSl Try.underlying62 rfl) ?_
  refine X.opP X.wN rfl rfl (X.lss rfl rfl) (fun h8 => ?_) (fun h8 => ?_)
  · obtain ⟨vi, hvi⟩ := getV i hl (by omega)
    obtain ⟨li, Ai, ni, ci, hli, rfl, hnci, hsi⟩ := hr.get hvi
    have hlil := hsi.len
    have hlen30 := hls li (List.mem_of_getElem? hli)
    refine X.opsEnd ?_
    refine X.condT rfl ?_
    refine X.skip ?_
    refine X.seq ?_
    refine X.block ?_
    refine X.region ?_
    refine X.opw X.wN rfl (X.move rfl) ?_
    refine X.opw X.wN rfl (X.move (v := .slice _ _ _) rfl) ?_
    refine X.opw X.wN rfl (X.move (v := .int .i64 _) rfl) ?_
    refine X.opw X.wN rfl (X.idxS (hs.keep hk) Try.underlying62 Try.sizeOf64 rfl rfl ⟨by omega, by omega⟩) ?_
    refine X.opw X.wN rfl (X.loadS Try.isAgg64 (hs.keep hk) hvi rfl (fun _ h => by rw [h.1]; rfl)) ?_
    refine X.opE X.wN rfl (X.callE (COf_c B _ (hsi.keep hk) (by omega) (by omega)) Try.call59 rfl rfl) ?_
    rintro _ w1 ⟨bm1, rfl, hC1, hk1⟩
    have hk1' := hk1.size
    refine X.opE X.wN rfl (X.litKF KR1_flat (K := KR1) (xs := [Operand.tmp 16]) (vs := [.iface 108 (.pointer (some ⟨bm1, 0, none⟩))]) (ys := [.iface 108 (.pointer (some ⟨bm1, 0, none⟩))]) Try.underlying97 Try.sizeOf72 Try.zeroValue72 rfl rfl rfl rfl rfl (reps_1 rfl rfl)) ?_
    rintro _ w2 ⟨rfl, hs2, hB2, hk2, hz2⟩
    have htb2 : ∀ p, p ∈ tb ++ [(wl.heap.size, w1.heap.size)] → w.heap.size ≤ p.1 ∧ p.2 ≤ w2.heap.size := fun p hp => (List.mem_append.1 hp).elim (fun h => by have := htb p h; omega) (fun h => by rw [List.mem_singleton.1 h]; (try simp only []); omega)
    refine X.opE X.wN rfl (X.appE (K := KR1) (S := fun k => w.heap.size ≤ k ∧ ∀ p, p ∈ (tb ++ [(wl.heap.size, w1.heap.size)]) → ¬ (p.1 ≤ k ∧ k < p.2)) KR1_flat Try.underlying97 EIfC rfl rfl ((hM0.mono (T := fun k => w.heap.size ≤ k ∧ ∀ p, p ∈ (tb ++ [(wl.heap.size, w1.heap.size)]) → ¬ (p.1 ≤ k ∧ k < p.2)) (fun k hk hs => ⟨hs.1, fun p hp => (List.mem_append.1 hp).elim (hs.2 p) (fun hp => by rw [List.mem_singleton.1 hp]; (try simp only []); omega)⟩)).keep (hk1.trans hk2)) hs2 (by (try simp only [List.length_singleton]); omega) (fun k hk => ⟨by omega, fun p hp h => by have := htb2 p hp; omega⟩)) ?_
    rintro v3 w3 ⟨hM3, hx3⟩
    have hx3' := hx3.size
    refine X.opw X.wN rfl (X.assign rfl) ?_
    refine X.opsEnd ?_
    refine X.inBlock ?_
    refine X.region ?_
    refine X.opw X.wN rfl (X.move (v := .int .i64 _) rfl) ?_
    refine X.opw X.wN rfl (X.add rfl rfl (X.w_i64 (by omega))) ?_
    refine X.opw X.wN rfl (X.assign (v := .int .i64 _) rfl) ?_
    refine X.opsEnd ?_
    have hcv2 : ∀ (j : Nat) y (p : Nat × Nat), (cs ++ [(.iface 108 (.pointer (some ⟨bm1, 0, none⟩)))])[j]? = some y → (tb ++ [(wl.heap.size, w1.heap.size)])[j]? = some p → CVC B (fun k => p.1 ≤ k ∧ k < p.2) y (LLC ls j) w3 := by
      intro j y p hy hp
      have hpm : p ∈ tb ++ [(wl.heap.size, w1.heap.size)] := List.mem_of_getElem? hp
      by_cases hj : j < cs.length
      · rw [List.getElem?_append_left hj] at hy
        rw [List.getElem?_append_left (by omega)] at hp
        exact ((hcv j y p hy hp).keep (hk1.trans hk2)).ext hx3 (fun k _ h => ⟨Nat.le_trans hBw h.1, h.2 p hpm⟩)
      · rw [List.getElem?_append_right (by omega)] at hy hp
        have h0 : j - cs.length = 0 := by
          have := (List.getElem?_eq_some_iff.1 hy).1
          simp at this; omega
        rw [h0] at hy
        rw [show j - tb.length = 0 by omega] at hp
        simp at hy hp
        have hLL : LLC ls j = li := by rw [show j = i by omega, LLC, List.getD_eq_getElem?_getD, hli]; rfl
        rw [← hy, ← hp, hLL]
        exact (hC1.keep hk2).ext hx3 (fun k _ h => ⟨Nat.le_trans hBw h.1, by rw [← hp] at hpm; exact h.2 _ hpm⟩)
    have hpw2 : (tb ++ [(wl.heap.size, w1.heap.size)]).Pairwise (fun p q => p.2 ≤ q.1) := by
      rw [List.pairwise_append]
      exact ⟨hpw, List.pairwise_singleton _ _, fun p hp q hq => by rw [List.mem_singleton.1 hq]; have := htb p hp; (try simp only []); omega⟩
    refine hback (i + 1, _, cs ++ [(.iface 108 (.pointer (some ⟨bm1, 0, none⟩)))], tb ++ [(wl.heap.size, w1.heap.size)]) _ _ ⟨rfl, rfl, rfl, trivial⟩ ⟨by dsimp only; omega, by dsimp only; rw [List.length_append, hcl]; rfl, by dsimp only; rw [List.length_append, htl]; rfl, hM3, hcv2, fun p hp => by have := htb2 p hp; omega, hpw2, (((hk.trans hk1).trans hk2).step hx3 (by intros; (try simp only [] at *); omega))⟩ (by dsimp only; omega)
  · obtain ⟨A', c', e, hc', hs'⟩ := hM0.slF KR1_flat 0 (fun _ _ => Nat.zero_le _)
    have hin : i = n := by omega
    rw [hcl, hin] at e hc' hs'
    subst e
    have hdj : ∀ i j, i < n → j < n → i ≠ j → ∀ k, (∃ p, tb[i]? = some p ∧ p.1 ≤ k ∧ k < p.2) → ¬ (∃ p, tb[j]? = some p ∧ p.1 ≤ k ∧ k < p.2) := by
      rintro i j hi hj hne k ⟨p, h1, h2⟩ ⟨q, h3, h4⟩
      obtain ⟨g1, g2⟩ := List.getElem?_eq_some_iff.1 h1
      obtain ⟨g3, g4⟩ := List.getElem?_eq_some_iff.1 h3
      have hp := List.pairwise_iff_getElem.1 hpw
      rcases Nat.lt_or_ge i j with h5 | h5
      · have := hp i j g1 g3 h5; rw [g2, g4] at this; omega
      · have := hp j i g3 g1 (by omega); rw [g2, g4] at this; omega
    have hcvj : ∀ (j : Nat) y, cs[j]? = some y → CVC B (fun k => ∃ p, tb[j]? = some p ∧ p.1 ≤ k ∧ k < p.2) y (LLC ls j) wl := by
      intro j y hy
      have hjl := (List.getElem?_eq_some_iff.1 hy).1
      exact (hcv j y _ hy (List.getElem?_eq_getElem (by omega))).wide fun k hk => ⟨_, List.getElem?_eq_getElem (by omega), hk⟩
    have hokj : ∀ j, j < n → ∀ x, x ∈ LLC ls j → okC B0 w0 x := by
      intro j hj x hx
      rw [LLC, List.getD_eq_getElem?_getD] at hx
      cases hq : ls[j]? with
      | none => rw [hq] at hx; simp at hx
      | some l => rw [hq] at hx; exact hok l (List.mem_of_getElem? hq) x hx
    refine X.opsEnd ?_
    refine X.condF rfl ?_
    refine X.exit rfl ?_
    refine X.seq ?_
    refine X.region ?_
    refine X.opw X.wN rfl (X.move (v := .slice _ _ _) rfl) ?_
    refine X.opE X.wN rfl (X.callE (CSum_c (Tj := fun j k => ∃ p, tb[j]? = some p ∧ p.1 ≤ k ∧ k < p.2) (L := LLC ls) _ hs' (by omega) hBw (by omega) (fun j hj k ⟨p, h1, h2⟩ => by have := htb p (List.mem_of_getElem? h1); omega) hdj (fun j y hy => hcvj j y hy) hB0 (hCW.step (hk.mono fun _ _ h => h.elim)) hokj) Try.call44 rfl rfl) ?_
    rintro _ w4 ⟨⟨p4, rfl⟩, hC4, hk4⟩
    have hk4' := hk4.size
    refine X.opw X.wN rfl (X.assign rfl) ?_
    refine X.opsEnd ?_
    refine X.ret1 Try.func40 Try.results40 rfl ?_
    exact ⟨⟨_, rfl⟩, hC4, (hk.trans hk4)⟩
end Go.Proofs.Ytgfficbkajcdpaa

namespace Go.Proofs.Ytgfficbkajcdpaa
open Go Go.Proofs.Ytgfficbkajcdpaa.X
set_option linter.unusedVariables false
set_option linter.unusedSimpArgs false
theorem less_trans : ∀ x y z : List UInt8, Op.bytesLess x y = true → Op.bytesLess y z = true → Op.bytesLess x z = true
  | [], [], _, h, _ => by simp [Op.bytesLess] at h
  | _ :: _, [], _, h, _ => by simp [Op.bytesLess] at h
  | _, _ :: _, [], _, h => by simp [Op.bytesLess] at h
  | [], _ :: _, _ :: _, _, _ => by simp [Op.bytesLess]
  | a :: x, b :: y, c :: z, h1, h2 => by
    simp only [Op.bytesLess, Bool.or_eq_true, decide_eq_true_eq, Bool.and_eq_true, beq_iff_eq] at h1 h2 ⊢
    rcases h1 with h1 | ⟨rfl, h1⟩
    · rcases h2 with h2 | ⟨rfl, h2⟩
      · exact .inl (UInt8.lt_trans h1 h2)
      · exact .inl h1
    · rcases h2 with h2 | ⟨rfl, h2⟩
      · exact .inl h2
      · exact .inr ⟨rfl, less_trans x y z h1 h2⟩
theorem cmpV_0 {a b : VAL} : cmpV a b = 0 ↔ a = b := by
  unfold cmpV
  by_cases h : a = b
  · simp [h]
  · rw [if_neg h]
    constructor
    · intro h2; split at h2 <;> cases h2
    · intro h2; exact absurd h2 h
def ltV (a b : VAL) : Prop := a.1 < b.1 ∨ a.1 = b.1 ∧ (a.2.1 < b.2.1 ∨ a.2.1 = b.2.1 ∧ Op.bytesLess a.2.2.data.toList b.2.2.data.toList = true)
instance (a b : VAL) : Decidable (ltV a b) := by unfold ltV; infer_instance
theorem ltV_irr {a : VAL} : ¬ ltV a a := by
  unfold ltV
  have := less_irr a.2.2.data.toList
  rintro (h | ⟨_, h | ⟨_, h⟩⟩)
  · omega
  · omega
  · rw [this] at h; cases h
theorem ltV_trans {a b c : VAL} (h1 : ltV a b) (h2 : ltV b c) : ltV a c := by
  unfold ltV at *
  rcases h1 with h1 | ⟨h1, h1' | ⟨h1', h1''⟩⟩ <;> rcases h2 with h2 | ⟨h2, h2' | ⟨h2', h2''⟩⟩
  · exact .inl (by omega)
  · exact .inl (by omega)
  · exact .inl (by omega)
  · exact .inl (by omega)
  · exact .inr ⟨by omega, .inl (by omega)⟩
  · exact .inr ⟨by omega, .inl (by omega)⟩
  · exact .inl (by omega)
  · exact .inr ⟨by omega, .inl (by omega)⟩
  · exact .inr ⟨by omega, .inr ⟨by omega, less_trans _ _ _ h1'' h2''⟩⟩
theorem ltV_tri {a b : VAL} (h : a ≠ b) : ltV a b ∨ ltV b a := by
  obtain ⟨a1, a2, a3⟩ := a
  obtain ⟨b1, b2, b3⟩ := b
  unfold ltV
  simp only
  by_cases h1 : a1 < b1
  · exact .inl (.inl h1)
  by_cases h2 : b1 < a1
  · exact .inr (.inl h2)
  have e : a1 = b1 := by omega
  subst e
  by_cases h3 : a2 < b2
  · exact .inl (.inr ⟨rfl, .inl h3⟩)
  by_cases h4 : b2 < a2
  · exact .inr (.inr ⟨rfl, .inl h4⟩)
  have e : a2 = b2 := by omega
  subst e
  by_cases h5 : Op.bytesLess a3.data.toList b3.data.toList = true
  · exact .inl (.inr ⟨rfl, .inr ⟨rfl, h5⟩⟩)
  by_cases h6 : Op.bytesLess b3.data.toList a3.data.toList = true
  · exact .inr (.inr ⟨rfl, .inr ⟨rfl, h6⟩⟩)
  exact absurd (by rw [cmpS_0 h5 h6]) h
theorem cmpV_lt {a b : VAL} : cmpV a b < 0 ↔ ltV a b := by
  show (if a = b then (0 : Int) else if ltV a b then -1 else 1) < 0 ↔ _
  by_cases h : a = b
  · subst h; rw [if_pos rfl]; exact ⟨fun h => by omega, fun h => absurd h ltV_irr⟩
  · rw [if_neg h]; by_cases h2 : ltV a b
    · rw [if_pos h2]; exact ⟨fun _ => h2, fun _ => by omega⟩
    · rw [if_neg h2]; exact ⟨fun h => by omega, fun h => absurd h h2⟩
theorem cmpV_gt {a b : VAL} : 0 < cmpV a b ↔ ltV b a := by
  show 0 < (if a = b then (0 : Int) else if ltV a b then -1 else 1) ↔ _
  by_cases h : a = b
  · subst h; rw [if_pos rfl]; exact ⟨fun h => by omega, fun h => absurd h ltV_irr⟩
  · rw [if_neg h]; by_cases h2 : ltV a b
    · rw [if_pos h2]; exact ⟨fun h => by omega, fun h3 => absurd (ltV_trans h2 h3) ltV_irr⟩
    · rw [if_neg h2]; exact ⟨fun _ => (ltV_tri h).resolve_left h2, fun h => by omega⟩
theorem cmpV_range (a b : VAL) : cmpV a b = 0 ∨ cmpV a b = -1 ∨ cmpV a b = 1 := by unfold cmpV; (repeat' split) <;> simp
theorem cmpV_neg (a b : VAL) : cmpV b a = - cmpV a b := by
  have h1 := cmpV_range a b
  have h2 := cmpV_range b a
  have h3 := @cmpV_lt a b
  have h4 := @cmpV_gt b a
  have h5 := @cmpV_gt a b
  have h6 := @cmpV_lt b a
  rcases h1 with h1 | h1 | h1
  · have := cmpV_0.1 h1
    subst this; omega
  · have := h4.2 (h3.1 (by omega)); omega
  · have := h6.2 (h5.1 (by omega)); omega
theorem cmpT_0 : ∀ l m : List VAL, cmpT l m = 0 ↔ l = m
  | [], [] => by simp [cmpT]
  | [], _ :: _ => by simp [cmpT]
  | _ :: _, [] => by simp [cmpT]
  | a :: l, b :: m => by
    rw [cmpT]
    by_cases h : cmpV a b = 0
    · rw [if_neg (by simpa using h), cmpT_0 l m, cmpV_0.1 h]; simp
    · rw [if_pos h]
      constructor
      · intro h2; exact absurd h2 h
      · intro h2; cases h2; exact absurd (cmpV_0.2 rfl) h
theorem cmpT_self (l : List VAL) : cmpT l l = 0 := (cmpT_0 l l).2 rfl
theorem cmpT_neg : ∀ l m : List VAL, cmpT m l = - cmpT l m
  | [], [] => by simp [cmpT]
  | [], _ :: _ => by simp [cmpT]
  | _ :: _, [] => by simp [cmpT]
  | a :: l, b :: m => by
    rw [cmpT, cmpT]
    have := cmpV_neg a b
    by_cases h : cmpV a b = 0
    · rw [if_neg (by omega), if_neg (by omega)]; exact cmpT_neg l m
    · rw [if_pos (by omega), if_pos h]; exact this
theorem cmpT_trans : ∀ l m n : List VAL, cmpT l m < 0 → cmpT m n < 0 → cmpT l n < 0
  | [], [], _, h, _ => by simp [cmpT] at h
  | _ :: _, [], _, h, _ => by simp [cmpT] at h
  | _, _ :: _, [], _, h => by simp [cmpT] at h
  | [], _ :: _, _ :: _, _, _ => by simp [cmpT]
  | a :: l, b :: m, c :: n, h1, h2 => by
    rw [cmpT] at h1 h2 ⊢
    by_cases e1 : cmpV a b = 0
    · rw [if_neg (by simpa using e1)] at h1
      have := cmpV_0.1 e1
      subst this
      by_cases e2 : cmpV a c = 0
      · rw [if_neg (by simpa using e2)] at h2 ⊢
        exact cmpT_trans l m n h1 h2
      · rw [if_pos e2] at h2 ⊢; exact h2
    · rw [if_pos e1] at h1
      by_cases e2 : cmpV b c = 0
      · have := cmpV_0.1 e2
        subst this
        rw [if_pos e1]; exact h1
      · rw [if_pos e2] at h2
        have h3 := cmpV_lt.2 (ltV_trans (cmpV_lt.1 h1) (cmpV_lt.1 h2))
        rw [if_pos (by omega)]; exact h3
/-- Not behind: a whole preorder. -/
theorem cmpT_le {l m n : List VAL} (h1 : cmpT l m ≤ 0) (h2 : cmpT m n ≤ 0) : cmpT l n ≤ 0 := by
  by_cases e1 : cmpT l m = 0
  · rw [(cmpT_0 _ _).1 e1]; exact h2
  by_cases e2 : cmpT m n = 0
  · rw [← (cmpT_0 _ _).1 e2]; exact h1
  have := cmpT_trans l m n (by omega) (by omega)
  omega
end Go.Proofs.Ytgfficbkajcdpaa

namespace Go.Proofs.Ytgfficbkajcdpaa
open Go Go.Proofs.Ytgfficbkajcdpaa.X
set_option linter.unusedVariables false
set_option linter.unusedSimpArgs false
theorem tp_now {B : Nat} {w0 w : World} {x : CT} (h : okC B w0 x) (c : CWc B w0 w) : Sl KV 0 B w x.1.1 x.1.2.1 (tp B w0 x.1) := (tp_ok h).ext c fun k _ h2 h3 => absurd h3 (Nat.not_le.2 h2)
noncomputable def rdC (B : Nat) (w0 : World) (x : CT) : List VAL × Int := (tp B w0 x.1, x.2)
theorem rd_step {B : Nat} {w0 : World} {l l' : List CT} {i : Nat} {x y : CT} (h1 : l[i]? = some x) (h2 : l'[i]? = some y) (ht : (l.take i).map (rdC B w0) = (l'.take i).map (rdC B w0)) (h : rdC B w0 x = rdC B w0 y) : (l.take (i + 1)).map (rdC B w0) = (l'.take (i + 1)).map (rdC B w0) := by
  rw [take_at h1, take_at h2, List.map_append, List.map_append, ht]; simp [h]
theorem getC {l : List CT} {n : Nat} (i : Nat) (h : l.length = n) (hi : i < n) : ∃ x, l[i]? = some x := ⟨l[i]'(by omega), List.getElem?_eq_getElem (by omega)⟩
-- f41 "pedigree/pedigreeref07.Same" params [64, 64] results [4] -> [(ResultVar.tmp 4)] nfree 0 ntmps 42 names
set_option maxHeartbeats 4000000 in
set_option maxRecDepth 100000 in
theorem R07Same_c {B0 : Nat} {w0 : World} {lo1 hi1 lo2 hi2 : Nat} {A1 A2 : Option Addr} {n1 n2 c1 c2 : Nat} {l1 l2 : List CT} (w : World) (hs1 : Sl KCt lo1 hi1 w A1 n1 l1) (hs2 : Sl KCt lo2 hi2 w A2 n2 l2) (hCW : CWc B0 w0 w) (hok1 : ∀ x, x ∈ l1 → okC B0 w0 x) (hok2 : ∀ x, x ∈ l2 → okC B0 w0 x) : Ret Try.prog 41 #[.slice A1 n1 c1, .slice A2 n2 c2] w fun r w' => r = .bool (decide (l1.map (rdC B0 w0) = l2.map (rdC B0 w0))) ∧ Keep w w' := by
  have hl1 := hs1.len
  have hl2 := hs2.len
  have hbd := hs1.bound
  refine X.enter Try.func41 rfl Try.ntmps41 rfl ?_
  refine X.seq ?_
  refine X.region ?_
  refine X.opw X.wN rfl (X.assign rfl) ?_
  refine X.opsEnd ?_
  refine X.seq ?_
  refine X.seq ?_
  refine X.region ?_
  refine X.opw X.wN rfl (X.move (v := .slice _ _ _) rfl) ?_
  refine X.opw X.wN rfl (X.lenSl Try.underlying64 rfl) ?_
  refine X.opw X.wN rfl (X.move (v := .slice _ _ _) rfl) ?_
  refine X.opw X.wN rfl (X.lenSl Try.underlying64 rfl) ?_
  refine X.opP X.wN rfl rfl (X.neI rfl rfl) (fun h10 => ?_) (fun h10 => ?_)
  · refine X.opsEnd ?_
    refine X.condT rfl ?_
    refine X.seq ?_
    refine X.region ?_
    refine X.opw X.wN rfl (X.assign rfl) ?_
    refine X.opsEnd ?_
    refine X.ret1 (v := (.bool _)) Try.func41 Try.results41 rfl ?_
    exact ⟨by congr 1; exact (decide_eq_false (fun e => h10 (by have := congrArg List.length e; simp at this; omega))).symm, (Keep.refl _)⟩
  · refine X.opsEnd ?_
    refine X.condF rfl ?_
    refine X.skip ?_
    refine X.seq ?_
    refine X.seq ?_
    refine X.region ?_
    refine X.opw X.wN rfl (X.assign rfl) ?_
    refine X.opsEnd ?_
    refine X.block ?_
    -- LOOP live: 0=a, 1=b, 5=i*
    refine X.loopL (σ := Nat) (fun s => [(0, .slice A1 n1 c1), (1, .slice A2 n2 c2), (5, .int .i64 (s : Int))]) (fun s w' => s ≤ n1 ∧ s ≤ n2 ∧ (l1.take s).map (rdC B0 w0) = (l2.take s).map (rdC B0 w0) ∧ Keep w w') (fun s => n1 - s) 0 ⟨rfl, rfl, rfl, trivial⟩ ⟨Nat.zero_le _, Nat.zero_le _, rfl, (Keep.refl _)⟩ ?_
    rintro i b w1 ⟨hi1, hi2, ht, hk⟩ hback
    have hk' := hk.size
    refine X.seq ?_
    refine X.seq ?_
    refine X.region ?_
    refine X.opw X.wN rfl (X.move (v := .int .i64 _) rfl) ?_
    refine X.opw X.wN rfl (X.move (v := .slice _ _ _) rfl) ?_
    refine X.opw X.wN rfl (X.lenSl Try.underlying64 rfl) ?_
    refine X.opP X.wN rfl rfl (X.lss rfl rfl) (fun h14 => ?_) (fun h14 => ?_)
    · obtain ⟨x1, hx1⟩ := getC i hl1 (by omega)
      obtain ⟨x2, hx2⟩ := getC i hl2 (by omega)
      refine X.opsEnd ?_
      refine X.condT rfl ?_
      refine X.skip ?_
      refine X.seq ?_
      refine X.block ?_
      refine X.seq ?_
      refine X.regionD (fun _ => False) 25 (by kernel_rfl) (by kernel_rfl) (fun w1 hk1 hz1 => ?_)
      refine X.dTake 0 rfl (by kernel_rfl) (by kernel_rfl) (by kernel_rfl) (X.dwN rfl) (fun w' hk' => X.move (v := .slice _ _ _) rfl) ?_
      refine X.dTake 1 rfl (by kernel_rfl) (by kernel_rfl) (by kernel_rfl) (X.dwN rfl) (fun w' hk' => X.move (v := .int .i64 _) rfl) ?_
      refine X.dTake 2 rfl (by kernel_rfl) (by kernel_rfl) (by kernel_rfl) (X.dwN rfl) (fun w' hk' => X.idxS (hs1.keep ((hk.trans hk1).trans hk')) Try.underlying64 Try.sizeOf70 rfl rfl ⟨by omega, by omega⟩) ?_
      refine X.dTake 3 rfl (by kernel_rfl) (by kernel_rfl) (by kernel_rfl) (X.dwN rfl) (fun w' hk' => X.fldA Try.underlying70 rfl rfl Try.sizeOf2) ?_
      refine X.dTake 4 rfl (by kernel_rfl) (by kernel_rfl) (by kernel_rfl) (X.dwN rfl) (fun w' hk' => X.loadSf Try.isAgg2 (hs1.keep ((hk.trans hk1).trans hk')) hx1 rfl (fun _ h => by rw [h.1]; rfl)) ?_
      refine X.dTake 5 rfl (by kernel_rfl) (by kernel_rfl) (by kernel_rfl) (X.dwN rfl) (fun w' hk' => X.move (v := .slice _ _ _) rfl) ?_
      refine X.dTake 6 rfl (by kernel_rfl) (by kernel_rfl) (by kernel_rfl) (X.dwN rfl) (fun w' hk' => X.move (v := .int .i64 _) rfl) ?_
      refine X.dTake 7 rfl (by kernel_rfl) (by kernel_rfl) (by kernel_rfl) (X.dwN rfl) (fun w' hk' => X.idxS (hs2.keep ((hk.trans hk1).trans hk')) Try.underlying64 Try.sizeOf70 rfl rfl ⟨by omega, by omega⟩) ?_
      refine X.dTake 8 rfl (by kernel_rfl) (by kernel_rfl) (by kernel_rfl) (X.dwN rfl) (fun w' hk' => X.fldA Try.underlying70 rfl rfl Try.sizeOf2) ?_
      refine X.dTake 9 rfl (by kernel_rfl) (by kernel_rfl) (by kernel_rfl) (X.dwN rfl) (fun w' hk' => X.loadSf Try.isAgg2 (hs2.keep ((hk.trans hk1).trans hk')) hx2 rfl (fun _ h => by rw [h.1]; rfl)) ?_
      refine X.dTake 10 rfl (by kernel_rfl) (by kernel_rfl) (by kernel_rfl) (X.dwN rfl) (fun w' hk' => X.neI rfl rfl) ?_
      refine X.dTake 11 rfl (by kernel_rfl) (by kernel_rfl) (by kernel_rfl) (X.dwN rfl) (fun w' hk' => X.move (v := .bool _) rfl) ?_
      refine X.dFork 28 rfl (fun h28 => ?_) (fun h28 => ?_)
      · refine X.dTakeS 12 rfl (by kernel_rfl) (by kernel_rfl) (by kernel_rfl) rfl rfl rfl rfl ?_
        refine X.dTakeS 13 rfl (by kernel_rfl) (by kernel_rfl) (by kernel_rfl) rfl rfl rfl rfl ?_
        refine X.dTakeS 14 rfl (by kernel_rfl) (by kernel_rfl) (by kernel_rfl) rfl rfl rfl rfl ?_
        refine X.dTakeS 15 rfl (by kernel_rfl) (by kernel_rfl) (by kernel_rfl) rfl rfl rfl rfl ?_
        refine X.dTakeS 16 rfl (by kernel_rfl) (by kernel_rfl) (by kernel_rfl) rfl rfl rfl rfl ?_
        refine X.dTakeS 17 rfl (by kernel_rfl) (by kernel_rfl) (by kernel_rfl) rfl rfl rfl rfl ?_
        refine X.dSkip (i := 18) (by kernel_rfl) rfl rfl rfl rfl rfl ?_
        refine X.dSkip (i := 19) (by kernel_rfl) rfl rfl rfl rfl rfl ?_
        refine X.dSkip (i := 20) (by kernel_rfl) rfl rfl rfl rfl rfl ?_
        refine X.dSkip (i := 21) (by kernel_rfl) rfl rfl rfl rfl rfl ?_
        refine X.dSkip (i := 22) (by kernel_rfl) rfl rfl rfl rfl rfl ?_
        refine X.dSkip (i := 23) (by kernel_rfl) rfl rfl rfl rfl rfl ?_
        refine X.dTake 24 rfl (by kernel_rfl) (by kernel_rfl) (by kernel_rfl) (X.dwN rfl) (fun w' hk' => X.pickT (v := .bool true) rfl rfl) ?_
        refine X.dEnd (by kernel_rfl) ?_
        refine X.condT rfl ?_
        refine X.seq ?_
        refine X.region ?_
        refine X.opw X.wN rfl (X.assign rfl) ?_
        refine X.opsEnd ?_
        refine X.ret1 (v := (.bool _)) Try.func41 Try.results41 rfl ?_
        refine ⟨by congr 1; refine (decide_eq_false (fun e => ?_)).symm; have e2 := congrArg (fun l => l[i]?) e; simp only [List.getElem?_map, hx1, hx2, Option.map_some] at e2; injection e2 with e2; injection e2 with e3 e4; simp only [decide_eq_true_eq] at h28; exact h28 e4, (hk.trans hk1)⟩
      · refine X.dTake 12 rfl (by kernel_rfl) (by kernel_rfl) (by kernel_rfl) (X.dwG rfl rfl rfl) (fun w' hk' => X.move (v := .slice _ _ _) rfl) ?_
        refine X.dTake 13 rfl (by kernel_rfl) (by kernel_rfl) (by kernel_rfl) (X.dwG rfl rfl rfl) (fun w' hk' => X.move (v := .int .i64 _) rfl) ?_
        refine X.dTake 14 rfl (by kernel_rfl) (by kernel_rfl) (by kernel_rfl) (X.dwG rfl rfl rfl) (fun w' hk' => X.idxS (hs1.keep ((hk.trans hk1).trans hk')) Try.underlying64 Try.sizeOf70 rfl rfl ⟨by omega, by omega⟩) ?_
        refine X.dTake 15 rfl (by kernel_rfl) (by kernel_rfl) (by kernel_rfl) (X.dwG rfl rfl rfl) (fun w' hk' => X.fldA Try.underlying70 rfl rfl Try.sizeOf68) ?_
        refine X.dTake 16 rfl (by kernel_rfl) (by kernel_rfl) (by kernel_rfl) (X.dwG rfl rfl rfl) (fun w' hk' => X.loadSf Try.isAgg68 (hs1.keep ((hk.trans hk1).trans hk')) hx1 rfl (fun _ h => by rw [h.1]; rfl)) ?_
        refine X.dTake 17 rfl (by kernel_rfl) (by kernel_rfl) (by kernel_rfl) (X.dwG rfl rfl rfl) (fun w' hk' => X.move (v := .slice _ _ _) rfl) ?_
        refine X.dTake 18 rfl (by kernel_rfl) (by kernel_rfl) (by kernel_rfl) (X.dwG rfl rfl rfl) (fun w' hk' => X.move (v := .int .i64 _) rfl) ?_
        refine X.dTake 19 rfl (by kernel_rfl) (by kernel_rfl) (by kernel_rfl) (X.dwG rfl rfl rfl) (fun w' hk' => X.idxS (hs2.keep ((hk.trans hk1).trans hk')) Try.underlying64 Try.sizeOf70 rfl rfl ⟨by omega, by omega⟩) ?_
        refine X.dTake 20 rfl (by kernel_rfl) (by kernel_rfl) (by kernel_rfl) (X.dwG rfl rfl rfl) (fun w' hk' => X.fldA Try.underlying70 rfl rfl Try.sizeOf68) ?_
        refine X.dTake 21 rfl (by kernel_rfl) (by kernel_rfl) (by kernel_rfl) (X.dwG rfl rfl rfl) (fun w' hk' => X.loadSf Try.isAgg68 (hs2.keep ((hk.trans hk1).trans hk')) hx2 rfl (fun _ h => by rw [h.1]; rfl)) ?_
        refine X.dE (i := 22) (by kernel_rfl) rfl (X.dwG rfl rfl rfl) (X.callE (R02Compare_c _ (tp_now (hok1 _ (List.mem_of_getElem? hx1)) (hCW.step ((hk.trans hk1).mono fun _ _ h => h.elim))) (tp_now (hok2 _ (List.mem_of_getElem? hx2)) (hCW.step ((hk.trans hk1).mono fun _ _ h => h.elim)))) Try.call43 rfl rfl) (by rintro _ w2 ⟨rfl, hk2⟩ _; exact hk2.mono (fun _ _ h => h.elim)) ?_
        rintro _ w2 ⟨rfl, hk2⟩
        have hk2' := hk2.size
        refine X.dTake 23 rfl (by kernel_rfl) (by kernel_rfl) (by kernel_rfl) (X.dwG rfl rfl rfl) (fun w' hk' => X.neI rfl rfl) ?_
        refine X.dTake 24 rfl (by kernel_rfl) (by kernel_rfl) (by kernel_rfl) (X.dwN rfl) (fun w' hk' => X.pickF (v := .bool _) rfl rfl) ?_
        refine X.dEnd (by kernel_rfl) ?_
        refine X.condB rfl (fun hc => ?_) (fun hc => ?_)
        · refine X.seq ?_
          refine X.region ?_
          refine X.opw X.wN rfl (X.assign rfl) ?_
          refine X.opsEnd ?_
          refine X.ret1 (v := (.bool _)) Try.func41 Try.results41 rfl ?_
          refine ⟨by congr 1; refine (decide_eq_false (fun e => ?_)).symm; have e2 := congrArg (fun l => l[i]?) e; simp only [List.getElem?_map, hx1, hx2, Option.map_some] at e2; injection e2 with e2; injection e2 with e3 e4; rw [e3, cmpT_self] at hc; simp at hc, ((hk.trans hk1).trans hk2)⟩
        · refine X.skip ?_
          refine X.inBlock ?_
          refine X.region ?_
          refine X.opw X.wN rfl (X.move (v := .int .i64 _) rfl) ?_
          refine X.opw X.wN rfl (X.add rfl rfl (X.w_i64 (by omega))) ?_
          refine X.opw X.wN rfl (X.assign (v := .int .i64 _) rfl) ?_
          refine X.opsEnd ?_
          have hrd : rdC B0 w0 x1 = rdC B0 w0 x2 := by
            have e1 : x1.2 = x2.2 := by simpa using h28
            have e2 : tp B0 w0 x1.1 = tp B0 w0 x2.1 := (cmpT_0 _ _).1 (by simpa using hc)
            rw [rdC, rdC, e1, e2]
          refine hback (i + 1) _ _ ⟨rfl, rfl, rfl, trivial⟩ ⟨by omega, by omega, rd_step hx1 hx2 ht hrd, ((hk.trans hk1).trans hk2)⟩ (by omega)
    · refine X.opsEnd ?_
      refine X.condF rfl ?_
      refine X.exit rfl ?_
      refine X.seq ?_
      refine X.region ?_
      refine X.opw X.wN rfl (X.assign rfl) ?_
      refine X.opsEnd ?_
      refine X.ret1 (v := (.bool _)) Try.func41 Try.results41 rfl ?_
      refine ⟨by congr 1; refine (decide_eq_true ?_).symm; rw [List.take_of_length_le (by omega), List.take_of_length_le (by omega)] at ht; exact ht, hk⟩
end Go.Proofs.Ytgfficbkajcdpaa

namespace Go.Proofs.Ytgfficbkajcdpaa.X
open Go
set_option linter.unusedVariables false
set_option linter.unusedSimpArgs false

section
variable {α : Type} {K : Kd α} {lo hi : Nat} {w : World}
theorem Reps.take : ∀ {xs : List α} {cs : List Value} (m : Nat), Reps K lo hi w xs cs → Reps K lo hi w (xs.take m) (cs.take (m * K.sz))
  | [], cs, m, h => by rw [show cs = [] from h]; simp; exact rfl
  | x :: xs, cs, 0, _ => by simp; exact rfl
  | x :: xs, cs, m + 1, ⟨a, b, e, h1, h2⟩ => by
    have hl := K.len h1
    refine ⟨a, b.take (m * K.sz), ?_, h1, Reps.take m h2⟩
    rw [e, List.take_append, List.take_of_length_le (by rw [hl, Nat.add_mul]; omega), hl, Nat.add_mul, show m * K.sz + 1 * K.sz - K.sz = m * K.sz by omega]
theorem Reps.splice {x x' : α} {i : Nat} {vs : List Value} (hR : ∀ a, K.R lo hi w x a → K.R lo hi w x' (a.take i ++ vs ++ a.drop (i + vs.length))) (hi' : i + vs.length ≤ K.sz) : ∀ {xs : List α} {cs : List Value} (j : Nat), xs[j]? = some x → Reps K lo hi w xs cs → Reps K lo hi w (xs.set j x') (cs.take (j * K.sz + i) ++ vs ++ cs.drop (j * K.sz + i + vs.length))
  | [], cs, j, hx, _ => by simp at hx
  | y :: xs, cs, 0, hx, ⟨a, b, e, h1, h2⟩ => by
    simp at hx; subst hx
    have hl := K.len h1
    refine ⟨a.take i ++ vs ++ a.drop (i + vs.length), b, ?_, hR a h1, h2⟩
    rw [e, Nat.zero_mul, Nat.zero_add, List.take_append_of_le_length (by omega), List.drop_append_of_le_length (by omega)]
    simp
  | y :: xs, cs, j + 1, hx, ⟨a, b, e, h1, h2⟩ => by
    simp at hx
    have hl := K.len h1
    refine ⟨a, b.take (j * K.sz + i) ++ vs ++ b.drop (j * K.sz + i + vs.length), ?_, h1, Reps.splice hR hi' j hx h2⟩
    rw [e, Nat.add_mul, Nat.one_mul, List.take_append, List.drop_append, List.take_of_length_le (by omega), List.drop_of_length_le (by omega), hl]
    rw [show j * K.sz + K.sz + i - K.sz = j * K.sz + i by omega, show j * K.sz + K.sz + i + vs.length - K.sz = j * K.sz + i + vs.length by omega]
    simp
end
section
variable {α : Type} {K : Kd α} {e : TypeId} {S : Nat → Prop} {lo hi : Nat} {w : World} {xs : List α}
theorem Own.take {b : Option Nat} {A : Option Addr} {n c : Nat} (h : Own K e b lo hi w (.slice A n c) xs) (m : Nat) (hm : m ≤ n) : Own K e b lo hi w (.slice A m c) (xs.take m) := by
  obtain ⟨⟨cs, hr, ho⟩, hb⟩ := h
  refine ⟨⟨cs.take (m * K.sz), hr.take m, ?_⟩, by rw [← hb]; cases A <;> rfl⟩
  have hl := ho.1
  rcases ho.2 with ⟨h0, h1⟩ | ⟨g, cap, cur, he, hg, hh, hnc, hcm, hcs, htk⟩
  · cases h0
    have : m = 0 := by omega
    subst this
    refine ⟨by simp, .inl ⟨rfl, by simp⟩⟩
  · injection he with e1 e2 e3
    subst e1 e3
    have hlx : (xs.take m).length = m := by rw [List.length_take]; omega
    have hms : m * K.sz ≤ n * K.sz := Nat.mul_le_mul_right _ hm
    refine ⟨by rw [List.length_take, hlx, hl, ← e2]; omega, .inr ⟨g, c, cur, by rw [hlx], hg, hh, by rw [hlx]; omega, hcm, hcs, ?_⟩⟩
    rw [hlx, ← htk, List.take_take, ← e2, Nat.min_eq_left hms]
theorem Mine.take {A : Option Addr} {n c : Nat} (h : Mine K e S lo hi w (.slice A n c) xs) (m : Nat) (hm : m ≤ n) : Mine K e S lo hi w (.slice A m c) (xs.take m) := let ⟨b, h, hb⟩ := h; ⟨b, h.take m hm, hb⟩
theorem Mine.len {A : Option Addr} {n c : Nat} (h : Mine K e S lo hi w (.slice A n c) xs) : xs.length = n := by
  obtain ⟨A', c', e, _⟩ := h.slice
  injection e with _ h2 _
  exact h2.symm
end
section
variable {P : Program} {ρ : Operand → Value} {w : World} {dst : Option Tmp} {ty : TypeId} {pos : String} {aft : Array Edge} {g : Option (Nat × Bool)}
/-- Some cells of an element are stored into a row of the call's own. -/
theorem storeMF {α : Type} {K : Kd α} (hF : Flat K) {T e : TypeId} {S : Nat → Prop} {a x : Operand} {A : Option Addr} {n c j i : Nat} {xs : List α} {y y' : α} {v : Value} {vs : List Value} (hs : ∀ w, (sizeOf T).run P w = .ok vs.length w) (hM : Mine K e S 0 0 w (.slice A n c) xs) (hy : xs[j]? = some y)
    (ha : ρ a = .pointer (some (((A.getD default).add (j * K.sz)).add i))) (hx : ρ x = v) (hvc : v.cells = vs.toArray) (h1 : ∀ u, u ∈ vs → u.oneCell' = true) (hi : i + vs.length ≤ K.sz) (hR : ∀ a, K.R 0 0 w y a → K.R 0 0 w y' (a.take i ++ vs ++ a.drop (i + vs.length))) :
    DoesE P ⟨none, .store T a x, ty, pos, aft, g⟩ ρ w fun _ w' => Mine K e S 0 0 w' (.slice A n c) (xs.set j y') ∧ Ext S w w' ∧ w'.heap.size = w.heap.size := by
  obtain ⟨b, ⟨⟨cs, hr, hrow⟩, hbb⟩, hb⟩ := hM
  have hl : cs.length = xs.length * K.sz := hrow.1
  have hj : j < xs.length := (List.getElem?_eq_some_iff.1 hy).1
  rcases hrow.2 with ⟨_, hn⟩ | ⟨g', cap, cur, he, hbg, hg, hnc, hcm, hcs, htake⟩
  · omega
  · injection he with e1 e2 e3
    subst e1
    have hjs : j * K.sz + K.sz ≤ xs.length * K.sz := by
      have := Nat.mul_le_mul_right K.sz (show j + 1 ≤ xs.length from hj)
      rw [Nat.add_mul, Nat.one_mul] at this; exact this
    have hxs : xs.length * K.sz ≤ cap * K.sz := Nat.mul_le_mul_right _ hnc
    have hcs : cur.size = cap * K.sz := hcs
    have hsg : Blk w g' cur.toList e := by unfold Blk; simpa using hg
    rw [add_add, show (Option.getD (some (⟨g', 0, none⟩ : Addr)) default).add (j * K.sz + i) = ⟨g', j * K.sz + i, none⟩ by show (⟨g', 0, none⟩ : Addr).add _ = _; rw [add_mk, Nat.zero_add]] at ha
    have hst := run_storeCells_at P g' (j * K.sz + i) e vs 0 cur w hg (by simp; omega) h1
    simp only [Nat.add_zero] at hst
    have hSg : S g' := hb g' (by rw [← hbb]; rfl)
    have hnew : (cur.toList.take (j * K.sz + i) ++ vs ++ cur.toList.drop (j * K.sz + i + vs.length)).length = cap * K.sz := by
      have : cur.toList.length = cap * K.sz := by simpa using hcs
      simp only [List.length_append, List.length_take, List.length_drop, this]; omega
    have hB' : (w.setRow g' (cur.toList.take (j * K.sz + i) ++ vs ++ cur.toList.drop (j * K.sz + i + vs.length)).toArray).heap[g']? = some (.cells (cur.toList.take (j * K.sz + i) ++ vs ++ cur.toList.drop (j * K.sz + i + vs.length)).toArray e (0, 0)) := by
      simp only [World.setRow, Array.getElem?_modify, if_true, hg, Option.map_some]
    have hext : Ext (fun k => k = g') w (w.setRow g' (cur.toList.take (j * K.sz + i) ++ vs ++ cur.toList.drop (j * K.sz + i + vs.length)).toArray) := ⟨rfl, rfl, rfl, by simp [World.setRow], fun k _ hk => by simp only [World.setRow, Array.getElem?_modify]; rw [if_neg (fun h => hk h.symm)]⟩
    refine (does_skip (w' := w.setRow g' (cur.toList.take (j * K.sz + i) ++ vs ++ cur.toList.drop (j * K.sz + i + vs.length)).toArray) rfl ?_).e ⟨⟨some g', ⟨⟨cs.take (j * K.sz + i) ++ vs ++ cs.drop (j * K.sz + i + vs.length), (Reps.splice (w := w) hR hi j hy (hr.flat hF)).flat hF, ?_⟩, rfl⟩, fun k hk => by cases hk; exact hSg⟩, hext.mono (fun k _ hk => by rw [show k = g' from hk]; exact hSg), by simp [World.setRow]⟩
    · simp only [execOp, ha, hx, Instr.storeAt, Instr.sureAddr, storeVar, hvc]
      simp [hs, hst]
    · have hlx : (xs.set j y').length = xs.length := List.length_set
      refine ⟨?_, .inr ⟨g', cap, _, by rw [hlx, e2, e3], hbg, hB', by rw [hlx]; exact hnc, hcm, by simpa using hnew, ?_⟩⟩
      · rw [hlx]; simp only [List.length_append, List.length_take, List.length_drop, hl]; omega
      · rw [hlx]
        have ht : cs = cur.toList.take (xs.length * K.sz) := htake.symm
        have hcl : cur.toList.length = cap * K.sz := by simpa using hcs
        rw [ht]
        apply List.ext_getElem?
        intro k
        simp only [List.getElem?_take, List.getElem?_append, List.length_append, List.length_take, List.getElem?_drop, hcl]
        rw [Nat.min_eq_left (show j * K.sz + i ≤ cap * K.sz by omega), Nat.min_eq_left (show xs.length * K.sz ≤ cap * K.sz by omega), Nat.min_eq_left (show j * K.sz + i ≤ xs.length * K.sz by omega)]
        by_cases q1 : k < j * K.sz + i
        · have : k < xs.length * K.sz := by omega
          simp [q1, this, show k < j * K.sz + i + vs.length by omega]
        · by_cases q2 : k < j * K.sz + i + vs.length
          · have : k < xs.length * K.sz := by omega
            simp [q1, q2, this]
          · by_cases q3 : k < xs.length * K.sz
            · have : j * K.sz + i + vs.length + (k - (j * K.sz + i + vs.length)) = k := by omega
              simp [q1, q2, q3, this]
            · have : j * K.sz + i + vs.length + (k - (j * K.sz + i + vs.length)) = k := by omega
              simp [q1, q2, q3, this]
/-- A whole element is stored. -/
theorem storeME {α : Type} {K : Kd α} (hF : Flat K) {T e : TypeId} {S : Nat → Prop} {a x : Operand} {A : Option Addr} {n c j : Nat} {xs : List α} {y' : α} {v : Value} {vs : List Value} (hs : ∀ w, (sizeOf T).run P w = .ok vs.length w) (hM : Mine K e S 0 0 w (.slice A n c) xs) (hj : j < xs.length)
    (ha : ρ a = .pointer (some ((A.getD default).add (j * K.sz)))) (hx : ρ x = v) (hvc : v.cells = vs.toArray) (h1 : ∀ u, u ∈ vs → u.oneCell' = true) (hn : vs.length = K.sz) (hR : K.R 0 0 w y' vs) :
    DoesE P ⟨none, .store T a x, ty, pos, aft, g⟩ ρ w fun _ w' => Mine K e S 0 0 w' (.slice A n c) (xs.set j y') ∧ Ext S w w' ∧ w'.heap.size = w.heap.size := by
  obtain ⟨y, hy⟩ : ∃ y, xs[j]? = some y := ⟨_, List.getElem?_eq_getElem hj⟩
  refine storeMF (i := 0) hF hs hM hy (by rw [ha, add_zero]) hx hvc h1 (by omega) (fun a h => ?_)
  have := K.len h
  rw [List.take_zero, List.nil_append, List.drop_of_length_le (by omega), List.append_nil]; exact hR
end
end Go.Proofs.Ytgfficbkajcdpaa.X
