/- Texts that the proof of MergeOrder stands on, part 9. -/
import Derived.Test.YtgfficbkajcdpaaProg
import Derived.Test.YtgfficbkajcdpaaBunMergeOrder8

namespace Go.Proofs.Ytgfficbkajcdpaa
open Go Go.Proofs.Ytgfficbkajcdpaa.X
set_option linter.unusedVariables false
set_option linter.unusedSimpArgs false
theorem ETh : ElemInfo Try.prog 29 2 16 := ElemInfo.of (z := .agg #[.int .i8 0, .int .i64 0]) (by kernel_rfl) rfl rfl rfl
theorem EI : ElemInfo Try.prog 3 1 8 := ElemInfo.of (z := .int .i64 0) (by kernel_rfl) rfl rfl rfl
-- f98 "(*pedigree/merge.made[pedigree/pedigreeref09.Thing]).Next" params [84] results [29, 4] -> [(ResultVar.
set_option maxHeartbeats 4000000 in
set_option maxRecDepth 100000 in
theorem next_over (fv : Value) (bm : Nat) (w : World) (hB : Blk w bm [fv, .bool true] 87) : Ret Try.prog 98 #[.pointer (some ⟨bm, 0, none⟩)] w fun r w' => r = hdV evT (0, 0) [] ∧ Keep w w' := by
  refine X.enter Try.func98 rfl Try.ntmps98 rfl ?_
  refine X.seq ?_
  refine X.region ?_
  refine X.opE X.wN rfl (X.allocE Try.zeroValue29 rfl) ?_
  rintro _ w1 ⟨rfl, hB1, hk1, hz1⟩
  refine X.opw X.wN rfl (X.assign rfl) ?_
  refine X.opsEnd ?_
  refine X.seq ?_
  refine X.seq ?_
  refine X.region ?_
  refine X.opw X.wN rfl (X.move rfl) ?_
  refine X.opw X.wN rfl (X.nilCk rfl) ?_
  refine X.opw X.wN rfl (X.fldB (j := 1) Try.underlying87 rfl rfl Try.sizeOf4 rfl) ?_
  refine X.opw X.wN rfl (X.load1B Try.isAgg4 (hB.keep hk1) rfl rfl) ?_
  refine X.opsEnd ?_
  refine X.condB rfl (fun hc => ?_) (fun hc => ?_)
  · refine X.seq ?_
    refine X.region ?_
    refine X.opw X.wN rfl (X.loadNB Try.isAgg29 Try.sizeOf29 hB1 rfl rfl rfl) ?_
    refine X.opE X.wN rfl (X.storeNE Try.sizeOf29 hB1 rfl rfl rfl rfl (fun u hu => by simp at hu; rcases hu with rfl | rfl <;> rfl)) ?_
    rintro _ w2 ⟨hB2, hx2, hz2⟩
    refine X.opw X.wN rfl (X.assign rfl) ?_
    refine X.opsEnd ?_
    refine X.ret_unw (X.unwR2 Try.func98 Try.results98 (X.ResOk.cell rfl (X.lvN Try.isAgg29 Try.sizeOf29 hB2 rfl)) (show X.ResOk _ _ _ (.tmp 3) (.bool _) from rfl) ?_)
    exact ⟨rfl, (hk1.step hx2 (by intros; (try simp only [] at *); omega))⟩
  · cases hc
-- f98 "(*pedigree/merge.made[pedigree/pedigreeref09.Thing]).Next" params [84] results [29, 4] -> [(ResultVar.
set_option maxHeartbeats 4000000 in
set_option maxRecDepth 100000 in
theorem next_step (fv : Value) (bm : Nat) (T : Nat → Prop) (hTm : ¬ T bm) (xs : List _) (w : World) (R : World → Prop) (hTb : ∀ k, T k → k < w.heap.size) (hB : Blk w bm [fv, .bool false] 87) (hcall : ∀ wa, Keep w wa → YC Try.prog fv [] wa fun r wc => r = hdV evT (0, 0) xs ∧ Ext T wa wc ∧ R wc) :
    Ret Try.prog 98 #[.pointer (some ⟨bm, 0, none⟩)] w fun r w' => r = hdV evT (0, 0) xs ∧ (∃ wc, R wc ∧ Ext T w wc ∧ Ext (fun k => k = bm ∨ w.heap.size ≤ k) wc w') ∧ Blk w' bm [fv, .bool xs.isEmpty] 87 := by
  have hbm := hB.lt
  refine X.enter Try.func98 rfl Try.ntmps98 rfl ?_
  refine X.seq ?_
  refine X.region ?_
  refine X.opE X.wN rfl (X.allocE Try.zeroValue29 rfl) ?_
  rintro _ w1 ⟨rfl, hB1, hk1, hz1⟩
  refine X.opw X.wN rfl (X.assign rfl) ?_
  refine X.opsEnd ?_
  refine X.seq ?_
  refine X.seq ?_
  refine X.region ?_
  refine X.opw X.wN rfl (X.move rfl) ?_
  refine X.opw X.wN rfl (X.nilCk rfl) ?_
  refine X.opw X.wN rfl (X.fldB (j := 1) Try.underlying87 rfl rfl Try.sizeOf4 rfl) ?_
  refine X.opw X.wN rfl (X.load1B Try.isAgg4 (hB.keep hk1) rfl rfl) ?_
  refine X.opsEnd ?_
  refine X.condB rfl (fun hc => ?_) (fun hc => ?_)
  · cases hc
  · refine X.skip ?_
    refine X.seq ?_
    refine X.seq ?_
    refine X.region ?_
    refine X.opw X.wN rfl (X.move rfl) ?_
    refine X.opw X.wN rfl (X.nilCk rfl) ?_
    refine X.opw X.wN rfl (X.fldB (j := 0) Try.underlying87 rfl rfl Try.sizeOf80 rfl) ?_
    refine X.opw X.wN rfl (X.load1B Try.isAgg80 (hB.keep hk1) rfl rfl) ?_
    refine X.opE X.wN rfl ((hcall _ hk1) _ _ _ _ _ _ _ _ _ rfl rfl) ?_
    rintro _ w2 ⟨rfl, hx2, hR2⟩
    have hx2' := hx2.size
    refine X.opw X.wN rfl (X.move rfl) ?_
    refine X.opw X.wN rfl (X.extr rfl rfl) ?_
    refine X.opw X.wN rfl (X.extr rfl rfl) ?_
    refine X.opE X.wN rfl (X.storeNE Try.sizeOf29 (hB1.ext hx2 (fun h => by have := hTb _ h; omega)) rfl rfl rfl rfl (fun u hu => by simp at hu; rcases hu with rfl | rfl <;> rfl)) ?_
    rintro _ w3 ⟨hB3, hx3, hz3⟩
    refine X.opw X.wN rfl (X.assign (v := .bool _) rfl) ?_
    refine X.opsEnd ?_
    refine X.seq ?_
    refine X.region ?_
    refine X.opw X.wN rfl (X.move (v := .bool _) rfl) ?_
    refine X.opw X.wN rfl (X.not_ rfl) ?_
    refine X.opsEnd ?_
    refine X.condB rfl (fun hc2 => ?_) (fun hc2 => ?_)
    · refine X.seq ?_
      refine X.region ?_
      refine X.opE X.wN rfl (X.allocE Try.zeroValue29 rfl) ?_
      rintro _ w4 ⟨rfl, hB4, hk4, hz4⟩
      refine X.opsEnd ?_
      refine X.regionD (fun k => k = bm) 5 (by kernel_rfl) (by kernel_rfl) (fun w5 hk5 hz5 => ?_)
      refine X.dTake 0 rfl (by kernel_rfl) (by kernel_rfl) (by kernel_rfl) (X.dwN rfl) (fun w' hk' => X.move rfl) ?_
      refine X.dTake 1 rfl (by kernel_rfl) (by kernel_rfl) (by kernel_rfl) (X.dwN rfl) (fun w' hk' => X.loadNB Try.isAgg29 Try.sizeOf29 ((hB4.keep hk5).ext hk' (by intros; (try simp only []); omega)) rfl rfl rfl) ?_
      refine X.dTake 2 rfl (by kernel_rfl) (by kernel_rfl) (by kernel_rfl) (X.dwN rfl) (fun w' hk' => X.nilCk rfl) ?_
      refine X.dTake 3 rfl (by kernel_rfl) (by kernel_rfl) (by kernel_rfl) (X.dwN rfl) (fun w' hk' => X.fldB (j := 1) Try.underlying87 rfl rfl Try.sizeOf4 rfl) ?_
      refine X.dE (i := 4) (by kernel_rfl) rfl (X.dwN rfl) (X.storeE Try.sizeOf4 ((((hB.keep hk1).ext hx2 hTm).ext hx3 (by intros; (try simp only []); omega)).keep (hk4.trans hk5)) rfl rfl rfl rfl) (by rintro _ w6 ⟨hB6, hx6, hz6⟩ _; exact hx6) ?_
      rintro _ w6 ⟨hB6, hx6, hz6⟩
      refine X.dE (i := 5) (by kernel_rfl) rfl (X.dwN rfl) (X.storeNE Try.sizeOf29 ((hB3.keep (hk4.trans hk5)).ext hx6 (by intros; (try simp only []); omega)) rfl rfl rfl rfl (fun u hu => by simp at hu; rcases hu with rfl | rfl <;> rfl)) (fun _ _ _ h => absurd h (by decide)) ?_
      rintro _ w7 ⟨hB7, hx7, hz7⟩
      refine X.dEnd (by kernel_rfl) ?_
      refine X.seq ?_
      refine X.region ?_
      refine X.opw X.wN rfl (X.loadNB Try.isAgg29 Try.sizeOf29 hB7 rfl rfl rfl) ?_
      refine X.opw X.wN rfl (X.move (v := .bool _) rfl) ?_
      refine X.opE X.wN rfl (X.storeNE Try.sizeOf29 hB7 rfl rfl rfl rfl (fun u hu => by simp at hu; rcases hu with rfl | rfl <;> rfl)) ?_
      rintro _ w8 ⟨hB8, hx8, hz8⟩
      refine X.opw X.wN rfl (X.assign (v := .bool _) rfl) ?_
      refine X.opsEnd ?_
      refine X.ret_unw (X.unwR2 Try.func98 Try.results98 (X.ResOk.cell rfl (X.lvN Try.isAgg29 Try.sizeOf29 hB8 rfl)) (show X.ResOk _ _ _ (.tmp 3) (.bool _) from rfl) ?_)
      obtain rfl : xs = [] := by simpa using hc2
      exact ⟨rfl, ⟨_, hR2, (Ext.trans (U := T) hk1 hx2 (fun _ _ h => h.elim) (fun _ _ h => h)), (Ext.andThen (Ext.andThen (Ext.andThen (Ext.andThen (Ext.andThen (Ext.andThen (Ext.refl (fun k => k = bm ∨ w.heap.size ≤ k) _) hx3 (by intro k h1 h2; first | exact h2.elim | omega | (simp only [] at *; omega))) hk4 (by intro k h1 h2; first | exact h2.elim | omega | (simp only [] at *; omega))) hk5 (by intro k h1 h2; first | exact h2.elim | omega | (simp only [] at *; omega))) hx6 (by intro k h1 h2; first | exact h2.elim | omega | (simp only [] at *; omega))) hx7 (by intro k h1 h2; first | exact h2.elim | omega | (simp only [] at *; omega))) hx8 (by intro k h1 h2; first | exact h2.elim | omega | (simp only [] at *; omega)))⟩, ((hB6.ext hx7 (by intros; (try simp only []); omega)).ext hx8 (by intros; (try simp only []); omega))⟩
    · refine X.skip ?_
      refine X.seq ?_
      refine X.region ?_
      refine X.opw X.wN rfl (X.loadNB Try.isAgg29 Try.sizeOf29 hB3 rfl rfl rfl) ?_
      refine X.opw X.wN rfl (X.move (v := .bool _) rfl) ?_
      refine X.opE X.wN rfl (X.storeNE Try.sizeOf29 hB3 rfl rfl rfl rfl (fun u hu => by simp at hu; rcases hu with rfl | rfl <;> rfl)) ?_
      rintro _ w9 ⟨hB9, hx9, hz9⟩
      refine X.opw X.wN rfl (X.assign (v := .bool _) rfl) ?_
      refine X.opsEnd ?_
      refine X.ret_unw (X.unwR2 Try.func98 Try.results98 (X.ResOk.cell rfl (X.lvN Try.isAgg29 Try.sizeOf29 hB9 rfl)) (show X.ResOk _ _ _ (.tmp 3) (.bool _) from rfl) ?_)
      cases xs with
      | nil => simp at hc2
      | cons x xs => exact ⟨rfl, ⟨_, hR2, (Ext.trans (U := T) hk1 hx2 (fun _ _ h => h.elim) (fun _ _ h => h)), (Ext.andThen (Ext.andThen (Ext.refl (fun k => k = bm ∨ w.heap.size ≤ k) _) hx3 (by intro k h1 h2; first | exact h2.elim | omega | (simp only [] at *; omega))) hx9 (by intro k h1 h2; first | exact h2.elim | omega | (simp only [] at *; omega)))⟩, ((((hB.keep hk1).ext hx2 hTm).ext hx3 (by intros; (try simp only []); omega)).ext hx9 (by intros; (try simp only []); omega))⟩
end Go.Proofs.Ytgfficbkajcdpaa

namespace Go.Proofs.Ytgfficbkajcdpaa
open Go Go.Proofs.Ytgfficbkajcdpaa.X
set_option linter.unusedVariables false
set_option linter.unusedSimpArgs false
theorem fresh_t {w w' : World} {v : Value} {l : List TH} (h : Fresh KTh 29 w w' v l) : ∃ A c, v = .slice A l.length c ∧ l.length ≤ c ∧ Sl KTh w.heap.size w'.heap.size w' A l.length l ∧ Keep w w' := by
  obtain ⟨A, c, h1, h2, h3⟩ := (h.1.flat KTh_flat (lo' := w.heap.size) (hi' := w'.heap.size)).sl (fun k hk hs => ⟨hs, hk⟩)
  exact ⟨A, c, h1, h2, h3, h.2⟩
-- f50 "slices.Clone[[]pedigree/pedigreeref09.Thing,pedigree/pedigreeref09.Thing]" params [24] results [24] ->
set_option maxHeartbeats 4000000 in
set_option maxRecDepth 100000 in
theorem Clone_c {lo hi : Nat} {A : Option Addr} {n c : Nat} {l : List TH} (w : World) (hs : Sl KTh lo hi w A n l) (hn : n ≤ 1000000) : Ret Try.prog 50 #[.slice A n c] w fun r w' => Fresh KTh 29 w w' r l := by
  have hl := hs.len
  refine X.enter Try.func50 rfl Try.ntmps50 rfl ?_
  refine X.seq ?_
  refine X.region ?_
  refine X.opw X.wN rfl (X.assign rfl) ?_
  refine X.opsEnd ?_
  refine X.seq ?_
  refine X.seq ?_
  refine X.region ?_
  refine X.opw X.wN rfl (X.move (v := .slice _ _ _) rfl) ?_
  refine X.opB X.wN rfl rfl (X.eqNil Try.underlying24 rfl rfl) (fun h4 => ?_) (fun h4 => ?_)
  · refine X.opsEnd ?_
    refine X.condT rfl ?_
    refine X.seq ?_
    refine X.region ?_
    refine X.opw X.wN rfl (X.assign rfl) ?_
    refine X.opsEnd ?_
    refine X.ret1 Try.func50 Try.results50 rfl ?_
    refine ⟨?_, (Keep.refl _)⟩
    rcases Nat.eq_zero_or_pos n with h | h
    · have hq : l = [] := List.eq_nil_of_length_eq_zero (by omega)
      subst hq; exact (Mine.nil _ _ _ _ _ _)
    · obtain ⟨ad, e, _⟩ := hs.at_ h
      subst e; simp at h4
  · refine X.opsEnd ?_
    refine X.condF rfl ?_
    refine X.skip ?_
    refine X.seq ?_
    refine X.region ?_
    refine X.opE X.wN rfl (X.lit0E (K := KTh) (S := fun k => w.heap.size ≤ k) Try.underlying24 Try.sizeOf29 (by intros; (try simp only [] at *); omega)) ?_
    rintro v1 w1 ⟨hM1, hk1, hz1⟩
    refine X.opw X.wN rfl (X.move (v := .slice _ _ _) rfl) ?_
    refine X.opE X.wN rfl (X.appE (K := KTh) (S := fun k => w.heap.size ≤ k) KTh_flat Try.underlying24 ETh rfl rfl hM1 (hs.keep hk1) (by (try simp only [List.length_append, List.length_cons, List.length_nil, List.length_take, List.length_drop, List.length_map, List.length_range]); omega) (by intros; (try simp only [] at *); omega)) ?_
    rintro v2 w2 ⟨hM2, hx2⟩
    have hx2' := hx2.size
    refine X.opw X.wN rfl (X.assign rfl) ?_
    refine X.opsEnd ?_
    refine X.ret1 Try.func50 Try.results50 rfl ?_
    exact ⟨hM2, (hk1.step hx2 (by intros; (try simp only [] at *); omega))⟩
-- f51 "pedigree/merge.Of[pedigree/pedigreeref09.Thing]$1" params [] results [29, 4] -> [(ResultVar.cell 2 29)
set_option maxHeartbeats 4000000 in
set_option maxRecDepth 100000 in
theorem Of1_c (i bi br : Nat) (hne : bi ≠ br) {lo hh : Nat} {A : Option Addr} {n c : Nat} {l : List TH} (w : World) (hs : Sl KTh lo hh w A n l) (hi : i ≤ n) (hn : n ≤ 1000000) (hbi : Blk w bi [.int .i64 (i : Int)] 3) (hbr : Blk w br [.slice A n c] 24) (hd : bi < lo ∨ hh ≤ bi) : Ret Try.prog 51 #[.pointer (some ⟨bi, 0, none⟩), .pointer (some ⟨br, 0, none⟩)] w fun r w' => r = hdV evT (0, 0) (l.drop i) ∧ Ext (fun k => k = bi) w w' ∧ (l.drop i ≠ [] → i < n ∧ Blk w' bi [.int .i64 ((i + 1 : Nat) : Int)] 3) := by
  have hl := hs.len
  have hbil := hbi.lt
  have hbrl := hbr.lt
  refine X.enter Try.func51 rfl Try.ntmps51 rfl ?_
  refine X.seq ?_
  refine X.region ?_
  refine X.opE X.wN rfl (X.allocE Try.zeroValue29 rfl) ?_
  rintro _ w1 ⟨rfl, hB1, hk1, hz1⟩
  refine X.opw X.wN rfl (X.assign rfl) ?_
  refine X.opsEnd ?_
  refine X.seq ?_
  refine X.seq ?_
  refine X.region ?_
  refine X.opw X.wN rfl (X.load1B Try.isAgg3 (hbi.keep hk1) rfl rfl) ?_
  refine X.opw X.wN rfl (X.load1B Try.isAgg24 (hbr.keep hk1) rfl rfl) ?_
  refine X.opw X.wN rfl (X.lenSl Try.underlying24 rfl) ?_
  refine X.opP X.wN rfl rfl (X.eqI rfl rfl) (fun h7 => ?_) (fun h7 => ?_)
  · refine X.opsEnd ?_
    refine X.condT rfl ?_
    refine X.seq ?_
    refine X.region ?_
    refine X.opw X.wN rfl (X.loadNB Try.isAgg29 Try.sizeOf29 hB1 rfl rfl rfl) ?_
    refine X.opE X.wN rfl (X.storeNE Try.sizeOf29 hB1 rfl rfl rfl rfl (fun u hu => by simp at hu; rcases hu with rfl | rfl <;> rfl)) ?_
    rintro _ w2 ⟨hB2, hx2, hz2⟩
    refine X.opw X.wN rfl (X.assign rfl) ?_
    refine X.opsEnd ?_
    refine X.ret_unw (X.unwR2 Try.func51 Try.results51 (X.ResOk.cell rfl (X.lvN Try.isAgg29 Try.sizeOf29 hB2 rfl)) (show X.ResOk _ _ _ (.tmp 3) (.bool _) from rfl) ?_)
    rw [List.drop_of_length_le (show l.length ≤ i by omega)]
    exact ⟨rfl, (Ext.andThen (Ext.andThen (Ext.refl (fun k => k = bi) _) hk1 (by intro k h1 h2; first | exact h2.elim | omega | (simp only [] at *; omega))) hx2 (by intro k h1 h2; first | exact h2.elim | omega | (simp only [] at *; omega))), fun h => absurd rfl h⟩
  · obtain ⟨x, hx⟩ := getN i hl (by omega)
    refine X.opsEnd ?_
    refine X.condF rfl ?_
    refine X.skip ?_
    refine X.seq ?_
    refine X.region ?_
    refine X.opw X.wN rfl (X.load1B Try.isAgg3 (hbi.keep hk1) rfl rfl) ?_
    refine X.opw X.wN rfl (X.add (c := ((i + 1 : Nat) : Int)) rfl rfl (by rw [X.w_i64 (by omega)]; omega)) ?_
    refine X.opE X.wN rfl (X.storeE Try.sizeOf3 (hbi.keep hk1) rfl rfl rfl rfl) ?_
    rintro _ w3 ⟨hB3, hx3, hz3⟩
    refine X.opsEnd ?_
    refine X.seq ?_
    refine X.region ?_
    refine X.opw X.wN rfl (X.load1B Try.isAgg24 ((hbr.keep hk1).ext hx3 (by intros; (try simp only []); omega)) rfl rfl) ?_
    refine X.opw X.wN rfl (X.load1B Try.isAgg3 hB3 rfl rfl) ?_
    refine X.opw X.wN rfl (X.sub (c := (i : Int)) rfl rfl (by rw [X.w_i64 (by omega)]; omega)) ?_
    refine X.opw X.wN rfl (X.idxS ((hs.keep hk1).ext hx3 (by intros; (try simp only []); omega)) Try.underlying24 Try.sizeOf29 rfl rfl ⟨by omega, by omega⟩) ?_
    refine X.opw X.wN rfl (X.loadSN Try.isAgg29 Try.sizeOf29 ((hs.keep hk1).ext hx3 (by intros; (try simp only []); omega)) hx rfl (fun _ h => h.1) rfl) ?_
    refine X.opE X.wN rfl (X.storeNE Try.sizeOf29 (hB1.ext hx3 (by intros; (try simp only []); omega)) rfl rfl rfl rfl (fun u hu => by simp at hu; rcases hu with rfl | rfl <;> rfl)) ?_
    rintro _ w4 ⟨hB4, hx4, hz4⟩
    refine X.opw X.wN rfl (X.assign rfl) ?_
    refine X.opsEnd ?_
    refine X.ret_unw (X.unwR2 Try.func51 Try.results51 (X.ResOk.cell rfl (X.lvN Try.isAgg29 Try.sizeOf29 hB4 rfl)) (show X.ResOk _ _ _ (.tmp 3) (.bool _) from rfl) ?_)
    rw [drop_at hx]
    exact ⟨rfl, (Ext.andThen (Ext.andThen (Ext.andThen (Ext.refl (fun k => k = bi) _) hk1 (by intro k h1 h2; first | exact h2.elim | omega | (simp only [] at *; omega))) hx3 (by intro k h1 h2; first | exact h2.elim | omega | (simp only [] at *; omega))) hx4 (by intro k h1 h2; first | exact h2.elim | omega | (simp only [] at *; omega))), fun _ => ⟨by omega, (hB3.ext hx4 (by intros; (try simp only []); omega))⟩⟩
theorem Sl.agree {lo hi B : Nat} {T : Nat → Prop} {w w' : World} {A : Option Addr} {n : Nat} {l : List TH} (h : Sl KTh lo hi w A n l) (ha : Agree T B w w') (hT : ∀ k, lo ≤ k → k < hi → k < B ∨ T k) : Sl KTh lo hi w' A n l :=
  Sl.ext h ha (fun k h1 h2 h3 => (hT k h1 h2).elim (fun h => by omega) h3.2)
/-- A row's step. -/
theorem of_stp (B a b bi br : Nat) (hne : bi ≠ br) {lo hi : Nat} {A : Option Addr} {n c : Nat} {l : List TH} (w : World) (hs : Sl KTh lo hi w A n l) (hn : n ≤ 1000000) (hbi : Blk w bi [.int .i64 0] 3) (hbr : Blk w br [.slice A n c] 24) (hd : bi < lo ∨ hi ≤ bi) (h1 : a ≤ lo) (h2 : hi ≤ b) (h3 : a ≤ bi ∧ bi < b) (h4 : a ≤ br ∧ br < b) :
    Stp Try.prog evT (0, 0) B (fun k => a ≤ k ∧ k < b) (.func (.func 51) #[] #[.pointer (some ⟨bi, 0, none⟩), .pointer (some ⟨br, 0, none⟩)]) l w := by
  refine ⟨fun xs w => ∃ i, i ≤ n ∧ xs = l.drop i ∧ Blk w bi [.int .i64 (i : Int)] 3 ∧ Blk w br [.slice A n c] 24 ∧ Sl KTh lo hi w A n l, ⟨0, Nat.zero_le _, rfl, hbi, hbr, hs⟩, ?_, ?_⟩
  · rintro xs w w' ⟨i, g1, g2, g3, g4, g5⟩ ha
    exact ⟨i, g1, g2, ha.blk g3 h3, ha.blk g4 h4, Sl.agree g5 ha fun k x y => .inr ⟨by omega, by omega⟩⟩
  · rintro xs w ⟨i, g1, rfl, g3, g4, g5⟩
    refine YC.of_ret (args := []) (cap := [_, _]) ((Of1_c i bi br hne w g5 g1 hn g3 g4 hd).mono ?_) Try.call51
    rintro r w' ⟨rfl, hx, hn'⟩
    refine ⟨rfl, hx.mono fun k _ hk => by rw [show k = bi from hk]; exact h3, fun hne' => ?_⟩
    obtain ⟨q1, q2⟩ := hn' hne'
    exact ⟨i + 1, q1, by rw [List.tail_drop], q2, g4.ext hx (fun e => hne e.symm), g5.ext hx (by intro k x y e; have e : k = bi := e; omega)⟩
/-- A cursor as an interface value. -/
def CV (B : Nat) (T : Nat → Prop) (c : Value) (xs : List TH) (w : World) : Prop := (c = .nilIface ∧ xs = []) ∨ ∃ p, c = .iface 84 p ∧ Cur Try.prog evT (0, 0) 98 B T p xs w
theorem CV.agree {B : Nat} {T : Nat → Prop} {c : Value} {xs : List TH} {w w' : World} (h : CV B T c xs w) (ha : Agree T B w w') : CV B T c xs w' := h.imp id fun ⟨p, h1, h2⟩ => ⟨p, h1, h2.agree ha⟩
theorem CV.wide {B : Nat} {T U : Nat → Prop} {c : Value} {xs : List TH} {w : World} (h : CV B T c xs w) (hU : ∀ k, T k → U k) : CV B U c xs w := h.imp id fun ⟨p, h1, h2⟩ => ⟨p, h1, h2.wide hU⟩
theorem CV.one {B : Nat} {T : Nat → Prop} {c : Value} {xs : List TH} {w : World} (h : CV B T c xs w) : c.oneCell' = true := by
  rcases h with ⟨rfl, _⟩ | ⟨p, rfl, _⟩ <;> rfl
/-- What is made of a step. -/
theorem cur_made {B bm a b : Nat} {fv : Value} {xs : List TH} {w : World} (h : Stp Try.prog evT (0, 0) B (fun k => a ≤ k ∧ k < b) fv xs w) (hb : Blk w bm [fv, .bool false] 87) (hBm : B ≤ bm) (hT : b ≤ bm) (hab : a ≤ bm) : CV B (fun k => a ≤ k ∧ k < bm + 1) (.iface 84 (.pointer (some ⟨bm, 0, none⟩))) xs w := by
  have hlt := hb.lt
  refine .inr ⟨_, rfl, (Cur.made h hb hBm (fun h => by omega) (fun k hk => by omega) (fun w h => next_over fv bm w h) (fun xs w R h1 h2 h3 => next_step fv bm _ (fun h => by omega) xs w R h1 h2 h3)).wide fun k hk => ?_⟩
  rcases hk with hk | hk <;> omega
-- f20 "pedigree/merge.Of[pedigree/pedigreeref09.Thing]" params [24] results [33] -> [(ResultVar.tmp 2)] nfree
set_option maxHeartbeats 4000000 in
set_option maxRecDepth 100000 in
theorem Of_c (B : Nat) {lo hi : Nat} {A : Option Addr} {n c : Nat} {l : List TH} (w : World) (hs : Sl KTh lo hi w A n l) (hB : B ≤ w.heap.size) (hn : n ≤ 1000000) : Ret Try.prog 20 #[.slice A n c] w fun r w' => ∃ bm, r = .iface 84 (.pointer (some ⟨bm, 0, none⟩)) ∧ CV B (fun k => w.heap.size ≤ k ∧ k < w'.heap.size) r l w' ∧ Keep w w' := by
  have hl := hs.len
  refine X.enter Try.func20 rfl Try.ntmps20 rfl ?_
  refine X.seq ?_
  refine X.region ?_
  refine X.opE X.wN rfl (X.boxE rfl rfl) ?_
  rintro _ w1 ⟨rfl, hB1, hk1, hz1⟩
  refine X.opw X.wN rfl (X.assign rfl) ?_
  refine X.opsEnd ?_
  refine X.seq ?_
  refine X.region ?_
  refine X.opw X.wN rfl (X.load1B Try.isAgg24 hB1 rfl rfl) ?_
  refine X.opE X.wN rfl (X.callE ((Clone_c _ (hs.keep hk1) hn).mono fun _ _ h => fresh_t h) Try.call50 rfl rfl) ?_
  rintro _ w2 ⟨A2, c2, rfl, hc2, hs2, hk2⟩
  have hk2' := hk2.size
  refine X.opE X.wN rfl (X.storeE Try.sizeOf24 (hB1.keep hk2) rfl rfl rfl rfl) ?_
  rintro _ w3 ⟨hB3, hx3, hz3⟩
  refine X.opsEnd ?_
  refine X.seq ?_
  refine X.region ?_
  refine X.opE X.wN rfl (X.allocE Try.zeroValue3 rfl) ?_
  rintro _ w4 ⟨rfl, hB4, hk4, hz4⟩
  refine X.opE X.wN rfl (X.storeE Try.sizeOf3 hB4 rfl rfl rfl rfl) ?_
  rintro _ w5 ⟨hB5, hx5, hz5⟩
  refine X.opsEnd ?_
  refine X.seq ?_
  refine X.region ?_
  refine X.opw X.wN rfl (X.mkFunc rfl) ?_
  refine X.opw X.wN rfl (X.buildB (vs := [(0, .func (.func 51) #[] #[.pointer (some ⟨w3.heap.size, 0, none⟩), .pointer (some ⟨w.heap.size, 0, none⟩)])]) (cs := #[.func (.func 51) #[] #[.pointer (some ⟨w3.heap.size, 0, none⟩), .pointer (some ⟨w.heap.size, 0, none⟩)], .bool false]) rfl (by kernel_rfl)) ?_
  refine X.opE X.wN rfl (X.boxE rfl rfl) ?_
  rintro _ w6 ⟨rfl, hB6, hk6, hz6⟩
  refine X.opw X.wN rfl (X.mkIface Try.underlying84 rfl rfl) ?_
  refine X.opw X.wN rfl (X.assign rfl) ?_
  refine X.opsEnd ?_
  refine X.ret1 Try.func20 Try.results20 rfl ?_
  exact ⟨_, rfl, (cur_made (of_stp B w.heap.size (w3.heap.size + 1) w3.heap.size w.heap.size (by omega) _ ((hs2.ext hx3 (by intros; (try simp only []); omega)).keep ((hk4.step hx5 (by intros; (try simp only [] at *); omega)).trans hk6)) (by have := hs2.len; omega) (hB5.keep hk6) (hB3.keep ((hk4.step hx5 (by intros; (try simp only [] at *); omega)).trans hk6)) (by omega) (by omega) (by omega) (by omega) (by omega)) hB6 (by omega) (by omega) (by omega)).wide (fun k hk => by omega), (((((hk1.trans hk2).step hx3 (by intros; (try simp only [] at *); omega)).trans hk4).step hx5 (by intros; (try simp only [] at *); omega)).trans hk6)⟩
end Go.Proofs.Ytgfficbkajcdpaa

namespace Go.Proofs.Ytgfficbkajcdpaa
open Go Go.Proofs.Ytgfficbkajcdpaa.X
set_option linter.unusedVariables false
set_option linter.unusedSimpArgs false
theorem next_m (p : Value) (w : World) : (method (Try.prog.types.size + Made.depth) 84 p "Next").run Try.prog w = .ok (98, p) w := by
  kernel_rfl
-- f15 "pedigree/pedigreelaw09.rest[pedigree/pedigreeref09.Thing]" params [33] results [24, 4] -> [(ResultVar.
set_option maxHeartbeats 4000000 in
set_option maxRecDepth 100000 in
theorem rest_c {B : Nat} {T : Nat → Prop} {p : Value} {xs : List TH} (w : World) (h : Cur Try.prog evT (0, 0) 98 B T p xs w) (hB : B ≤ w.heap.size) (hTb : ∀ k, T k → k < w.heap.size) (hxl : xs.length < 2000) : Ret Try.prog 15 #[.iface 84 p] w fun r w' => ∃ v, r = .tuple #[v, .bool true] ∧ Mine KTh 29 (fun k => w.heap.size ≤ k) 0 0 w' v xs ∧ Ext T w w' := by
  refine X.enter Try.func15 rfl Try.ntmps15 rfl ?_
  refine X.seq ?_
  refine X.region ?_
  refine X.opw X.wN rfl (X.assign rfl) ?_
  refine X.opw X.wN rfl (X.assign rfl) ?_
  refine X.opsEnd ?_
  refine X.seq ?_
  refine X.seq ?_
  refine X.region ?_
  refine X.opw X.wN rfl (X.move rfl) ?_
  refine X.opw X.wN rfl (X.eqIf1 Try.underlying33 rfl rfl) ?_
  refine X.opsEnd ?_
  refine X.condF rfl ?_
  refine X.skip ?_
  refine X.seq ?_
  refine X.region ?_
  refine X.opw X.wN rfl (X.assign rfl) ?_
  refine X.opsEnd ?_
  refine X.seq ?_
  refine X.seq ?_
  refine X.region ?_
  refine X.opw X.wN rfl (X.assign rfl) ?_
  refine X.opsEnd ?_
  refine X.block ?_
  -- LOOP live: 0=c, 4=out*, 5=i*
  refine X.loopL (σ := Nat × Value × List TH × List TH) (fun s => [(0, .iface 84 p), (4, s.2.1), (5, .int .i64 (s.1 : Int))]) (fun s w' => s.1 = s.2.2.1.length ∧ s.2.2.1 ++ s.2.2.2 = xs ∧ Mine KTh 29 (fun k => w.heap.size ≤ k) 0 0 w' s.2.1 s.2.2.1 ∧ Cur Try.prog evT (0, 0) 98 B T p s.2.2.2 w' ∧ Ext T w w') (fun s => 2000 - s.1) (0, _, [], xs) ⟨rfl, rfl, rfl, trivial⟩ ⟨rfl, rfl, Mine.nil _ _ _ _ _ _, h, Ext.refl _ _⟩ ?_
  rintro ⟨i, v, ds, ys⟩ b0 wl ⟨hi, hxs, hM, hC, hE⟩ hback
  dsimp only
  simp only at hi hxs hM hC
  have hE' := hE.size
  have hlen : ds.length + ys.length = xs.length := by rw [← hxs, List.length_append]
  refine X.seq ?_
  refine X.seq ?_
  refine X.region ?_
  refine X.opw X.wN rfl (X.move (v := .int .i64 _) rfl) ?_
  refine X.opP X.wN rfl rfl (X.lss rfl rfl) (fun h13 => ?_) (fun h13 => ?_)
  · refine X.opsEnd ?_
    refine X.condT rfl ?_
    refine X.skip ?_
    refine X.seq ?_
    refine X.block ?_
    refine X.seq ?_
    refine X.region ?_
    refine X.opw X.wN rfl (X.move rfl) ?_
    refine X.opE X.wN rfl (X.invokeE rfl (next_m _) hC.next Try.call98) ?_
    rintro _ w1 ⟨rfl, hx1, hC1⟩
    have hx1' := hx1.size
    refine X.opw X.wN rfl (X.move rfl) ?_
    refine X.opw X.wN rfl (X.extr rfl rfl) ?_
    refine X.opw X.wN rfl (X.extr rfl rfl) ?_
    refine X.opE X.wN rfl (X.allocE Try.zeroValue29 rfl) ?_
    rintro _ w2 ⟨rfl, hB2, hk2, hz2⟩
    refine X.opE X.wN rfl (X.storeNE Try.sizeOf29 hB2 rfl rfl rfl rfl (fun u hu => by simp at hu; rcases hu with rfl | rfl <;> rfl)) ?_
    rintro _ w3 ⟨hB3, hx3, hz3⟩
    refine X.opw X.wN rfl (X.assign (v := .bool _) rfl) ?_
    refine X.opsEnd ?_
    refine X.seq ?_
    refine X.seq ?_
    refine X.region ?_
    refine X.opw X.wN rfl (X.move (v := .bool _) rfl) ?_
    refine X.opw X.wN rfl (X.not_ rfl) ?_
    refine X.opsEnd ?_
    refine X.condB rfl (fun hc => ?_) (fun hc => ?_)
    · cases ys with
      | cons y ys => simp at hc
      | nil =>
      refine X.seq ?_
      refine X.region ?_
      refine X.opw X.wN rfl (X.move rfl) ?_
      refine X.opE X.wN rfl (X.invokeE rfl (next_m _) (hC1.keep (hk2.step hx3 (by intros; (try simp only [] at *); omega))).next Try.call98) ?_
      rintro _ w4 ⟨rfl, hx4, hC4⟩
      have hx4' := hx4.size
      refine X.opw X.wN rfl (X.move rfl) ?_
      refine X.opw X.wN rfl (X.extr rfl rfl) ?_
      refine X.opw X.wN rfl (X.extr rfl rfl) ?_
      refine X.opE X.wN rfl (X.allocE Try.zeroValue29 rfl) ?_
      rintro _ w5 ⟨rfl, hB5, hk5, hz5⟩
      refine X.opE X.wN rfl (X.storeNE Try.sizeOf29 hB5 rfl rfl rfl rfl (fun u hu => by simp at hu; rcases hu with rfl | rfl <;> rfl)) ?_
      rintro _ w6 ⟨hB6, hx6, hz6⟩
      refine X.opw X.wN rfl (X.assign (v := .bool _) rfl) ?_
      refine X.opsEnd ?_
      refine X.seq ?_
      refine X.region ?_
      refine X.opw X.wN rfl (X.move rfl) ?_
      refine X.opw X.wN rfl (X.move (v := .bool _) rfl) ?_
      refine X.opw X.wN rfl (X.not_ rfl) ?_
      refine X.opw X.wN rfl (X.assign rfl) ?_
      refine X.opw X.wN rfl (X.assign (v := .bool _) rfl) ?_
      refine X.opsEnd ?_
      refine X.ret2 (v2 := (.bool _)) Try.func15 Try.results15 rfl rfl ?_
      exact ⟨_, rfl, (by rw [List.append_nil] at hxs; rw [← hxs]; exact ((((hM.ext hx1 (by intro k h1 h2; omega) (fun k hk ht => by have := hTb k ht; omega)).keep (hk2.step hx3 (by intros; (try simp only [] at *); omega))).ext hx4 (by intro k h1 h2; omega) (fun k hk ht => by have := hTb k ht; omega)).keep (hk5.step hx6 (by intros; (try simp only [] at *); omega)))), (Ext.andThen (Ext.andThen (Ext.andThen (Ext.andThen (Ext.andThen (Ext.andThen hE hx1 (by intro k h1 h2; first | exact h2 | exact .inl h2 | exact .inr h2 | exact (h2 : False).elim | (exfalso; (try simp only [] at *); omega))) hk2 (by intro k h1 h2; first | exact h2 | exact .inl h2 | exact .inr h2 | exact (h2 : False).elim | (exfalso; (try simp only [] at *); omega))) hx3 (by intro k h1 h2; first | exact h2 | exact .inl h2 | exact .inr h2 | exact (h2 : False).elim | (exfalso; (try simp only [] at *); omega))) hx4 (by intro k h1 h2; first | exact h2 | exact .inl h2 | exact .inr h2 | exact (h2 : False).elim | (exfalso; (try simp only [] at *); omega))) hk5 (by intro k h1 h2; first | exact h2 | exact .inl h2 | exact .inr h2 | exact (h2 : False).elim | (exfalso; (try simp only [] at *); omega))) hx6 (by intro k h1 h2; first | exact h2 | exact .inl h2 | exact .inr h2 | exact (h2 : False).elim | (exfalso; (try simp only [] at *); omega)))⟩
    · cases ys with
      | nil => simp at hc
      | cons y ys =>
      refine X.skip ?_
      refine X.region ?_
      refine X.opw X.wN rfl (X.move rfl) ?_
      refine X.opw X.wN rfl (X.loadNB Try.isAgg29 Try.sizeOf29 hB3 rfl rfl rfl) ?_
      refine X.opE X.wN rfl (X.litKF KTh_flat (K := KTh) (xs := [Operand.tmp 32]) (vs := [evT y]) (ys := [y]) Try.underlying24 Try.sizeOf29 Try.zeroValue29 rfl rfl rfl rfl rfl (repsT y)) ?_
      rintro _ w7 ⟨rfl, hs7, hB7, hk7, hz7⟩
      refine X.opE X.wN rfl (X.appE (K := KTh) (S := fun k => w.heap.size ≤ k) KTh_flat Try.underlying24 ETh rfl rfl ((hM.ext hx1 (by intro k h1 h2; omega) (fun k hk ht => by have := hTb k ht; omega)).keep ((hk2.step hx3 (by intros; (try simp only [] at *); omega)).trans hk7)) hs7 (by (try simp only [List.length_append, List.length_cons, List.length_nil, List.length_take, List.length_drop, List.length_map, List.length_range]); omega) (by intros; (try simp only [] at *); omega)) ?_
      rintro v8 w8 ⟨hM8, hx8⟩
      have hx8' := hx8.size
      refine X.opw X.wN rfl (X.assign rfl) ?_
      refine X.opsEnd ?_
      refine X.inBlock ?_
      refine X.region ?_
      refine X.opw X.wN rfl (X.move (v := .int .i64 _) rfl) ?_
      refine X.opw X.wN rfl (X.add rfl rfl (X.w_i64 (by omega))) ?_
      refine X.opw X.wN rfl (X.assign (v := .int .i64 _) rfl) ?_
      refine X.opsEnd ?_
      refine hback (i + 1, _, ds ++ [y], ys) _ _ ⟨rfl, rfl, rfl, trivial⟩ ⟨by dsimp only; rw [List.length_append, hi]; rfl, by dsimp only; rw [← hxs]; simp, hM8, ((hC1.keep ((hk2.step hx3 (by intros; (try simp only [] at *); omega)).trans hk7)).ext hx8 (by intro k hk hk2; refine ⟨by (try simp only [] at *); omega, fun ht => by have := hTb k ht; (try simp only [] at *); omega⟩)), (Ext.andThen (Ext.andThen (Ext.andThen (Ext.andThen (Ext.andThen hE hx1 (by intro k h1 h2; first | exact h2 | exact .inl h2 | exact .inr h2 | exact (h2 : False).elim | (exfalso; (try simp only [] at *); omega))) hk2 (by intro k h1 h2; first | exact h2 | exact .inl h2 | exact .inr h2 | exact (h2 : False).elim | (exfalso; (try simp only [] at *); omega))) hx3 (by intro k h1 h2; first | exact h2 | exact .inl h2 | exact .inr h2 | exact (h2 : False).elim | (exfalso; (try simp only [] at *); omega))) hk7 (by intro k h1 h2; first | exact h2 | exact .inl h2 | exact .inr h2 | exact (h2 : False).elim | (exfalso; (try simp only [] at *); omega))) hx8 (by intro k h1 h2; first | exact h2 | exact .inl h2 | exact .inr h2 | exact (h2 : False).elim | (exfalso; (try simp only [] at *); omega)))⟩ (by dsimp only; omega)
  · refine X.opsEnd ?_
    refine X.condF rfl ?_
    refine X.exit rfl ?_
    refine X.seq ?_
    refine X.region ?_
    refine X.opw X.wN rfl (X.move rfl) ?_
    refine X.opw X.wN rfl (X.assign rfl) ?_
    refine X.opw X.wN rfl (X.assign rfl) ?_
    refine X.opsEnd ?_
    refine X.ret2 (v2 := (.bool _)) Try.func15 Try.results15 rfl rfl ?_
    omega
end Go.Proofs.Ytgfficbkajcdpaa

namespace Go.Proofs.Ytgfficbkajcdpaa
open Go Go.Proofs.Ytgfficbkajcdpaa.X
set_option linter.unusedVariables false
set_option linter.unusedSimpArgs false
-- f48 "(*pedigree/merge.head[pedigree/pedigreeref09.Thing]).look" params [85] results [29, 4] -> [(ResultVar.
set_option maxHeartbeats 4000000 in
set_option maxRecDepth 100000 in
theorem lookt_c (hb : Nat) (c : Value) (x : TH) (w : World) (hB : Blk w hb [c, .int .i8 x.1, .int .i64 x.2, .bool true, .bool false] 112) : Ret Try.prog 48 #[.pointer (some ⟨hb, 0, none⟩)] w fun r w' => r = .tuple #[evT x, .bool true] ∧ Keep w w' := by
  have hhb := hB.lt
  refine X.enter Try.func48 rfl Try.ntmps48 rfl ?_
  refine X.seq ?_
  refine X.region ?_
  refine X.opE X.wN rfl (X.allocE Try.zeroValue29 rfl) ?_
  rintro _ w1 ⟨rfl, hB1, hk1, hz1⟩
  refine X.opw X.wN rfl (X.assign rfl) ?_
  refine X.opsEnd ?_
  refine X.seq ?_
  refine X.seq ?_
  refine X.region ?_
  refine X.opw X.wN rfl (X.move rfl) ?_
  refine X.opw X.wN rfl (X.nilCk rfl) ?_
  refine X.opw X.wN rfl (X.fldB (j := 3) Try.underlying112 rfl rfl Try.sizeOf4 rfl) ?_
  refine X.opw X.wN rfl (X.load1B Try.isAgg4 (hB.keep hk1) rfl rfl) ?_
  refine X.opw X.wN rfl (X.not_ rfl) ?_
  refine X.opw X.wN rfl (X.move (v := .bool false) rfl) ?_
  refine X.opS rfl rfl rfl rfl rfl ?_
  refine X.opS rfl rfl rfl rfl rfl ?_
  refine X.opS rfl rfl rfl rfl rfl ?_
  refine X.opS rfl rfl rfl rfl rfl ?_
  refine X.opS rfl rfl rfl rfl rfl ?_
  refine X.opw X.wN rfl (X.pickF (v := .bool false) rfl rfl) ?_
  refine X.opsEnd ?_
  refine X.condF rfl ?_
  refine X.skip ?_
  refine X.seq ?_
  refine X.regionD (fun k => k = w.heap.size) 10 (by kernel_rfl) (by kernel_rfl) (fun w2 hk2 hz2 => ?_)
  refine X.dTake 0 rfl (by kernel_rfl) (by kernel_rfl) (by kernel_rfl) (X.dwN rfl) (fun w' hk' => X.move rfl) ?_
  refine X.dTake 1 rfl (by kernel_rfl) (by kernel_rfl) (by kernel_rfl) (X.dwN rfl) (fun w' hk' => X.nilCk rfl) ?_
  refine X.dTake 2 rfl (by kernel_rfl) (by kernel_rfl) (by kernel_rfl) (X.dwN rfl) (fun w' hk' => X.fldB (j := 1) Try.underlying112 rfl rfl Try.sizeOf29 rfl) ?_
  refine X.dTake 3 rfl (by kernel_rfl) (by kernel_rfl) (by kernel_rfl) (X.dwN rfl) (fun w' hk' => X.loadNB Try.isAgg29 Try.sizeOf29 (hB.keep ((hk1.trans hk2).step hk' (by intros; (try simp only [] at *); omega))) rfl rfl rfl) ?_
  refine X.dTake 4 rfl (by kernel_rfl) (by kernel_rfl) (by kernel_rfl) (X.dwN rfl) (fun w' hk' => X.move rfl) ?_
  refine X.dTake 5 rfl (by kernel_rfl) (by kernel_rfl) (by kernel_rfl) (X.dwN rfl) (fun w' hk' => X.nilCk rfl) ?_
  refine X.dTake 6 rfl (by kernel_rfl) (by kernel_rfl) (by kernel_rfl) (X.dwN rfl) (fun w' hk' => X.fldB (j := 4) Try.underlying112 rfl rfl Try.sizeOf4 rfl) ?_
  refine X.dTake 7 rfl (by kernel_rfl) (by kernel_rfl) (by kernel_rfl) (X.dwN rfl) (fun w' hk' => X.load1B Try.isAgg4 (hB.keep ((hk1.trans hk2).step hk' (by intros; (try simp only [] at *); omega))) rfl rfl) ?_
  refine X.dTake 8 rfl (by kernel_rfl) (by kernel_rfl) (by kernel_rfl) (X.dwN rfl) (fun w' hk' => X.not_ rfl) ?_
  refine X.dE (i := 9) (by kernel_rfl) rfl (X.dwN rfl) (X.storeNE Try.sizeOf29 (hB1.keep hk2) rfl rfl rfl rfl (fun u hu => by simp at hu; rcases hu with rfl | rfl <;> rfl)) (by rintro _ w3 ⟨hB3, hx3, hz3⟩ _; exact hx3.mono (fun k _ h => by (try simp only [] at *); omega)) ?_
  rintro _ w3 ⟨hB3, hx3, hz3⟩
  refine X.dStep (i := 10) (by kernel_rfl) rfl (X.dwN rfl) (X.assign (v := .bool _) rfl) (fun h => absurd h (by decide)) ?_
  refine X.dEnd (by kernel_rfl) ?_
  refine X.ret_unw (X.unwR2 Try.func48 Try.results48 (X.ResOk.cell rfl (X.lvN Try.isAgg29 Try.sizeOf29 hB3 rfl)) (show X.ResOk _ _ _ (.tmp 3) (.bool _) from rfl) ?_)
  exact ⟨rfl, ((hk1.trans hk2).step hx3 (by intros; (try simp only [] at *); omega))⟩
-- f48 "(*pedigree/merge.head[pedigree/pedigreeref09.Thing]).look" params [85] results [29, 4] -> [(ResultVar.
set_option maxHeartbeats 4000000 in
set_option maxRecDepth 100000 in
theorem looko_c (hb : Nat) (c : Value) (x : TH) (w : World) (hB : Blk w hb [c, .int .i8 x.1, .int .i64 x.2, .bool true, .bool true] 112) : Ret Try.prog 48 #[.pointer (some ⟨hb, 0, none⟩)] w fun r w' => r = .tuple #[evT x, .bool false] ∧ Keep w w' := by
  have hhb := hB.lt
  refine X.enter Try.func48 rfl Try.ntmps48 rfl ?_
  refine X.seq ?_
  refine X.region ?_
  refine X.opE X.wN rfl (X.allocE Try.zeroValue29 rfl) ?_
  rintro _ w1 ⟨rfl, hB1, hk1, hz1⟩
  refine X.opw X.wN rfl (X.assign rfl) ?_
  refine X.opsEnd ?_
  refine X.seq ?_
  refine X.seq ?_
  refine X.region ?_
  refine X.opw X.wN rfl (X.move rfl) ?_
  refine X.opw X.wN rfl (X.nilCk rfl) ?_
  refine X.opw X.wN rfl (X.fldB (j := 3) Try.underlying112 rfl rfl Try.sizeOf4 rfl) ?_
  refine X.opw X.wN rfl (X.load1B Try.isAgg4 (hB.keep hk1) rfl rfl) ?_
  refine X.opw X.wN rfl (X.not_ rfl) ?_
  refine X.opw X.wN rfl (X.move (v := .bool false) rfl) ?_
  refine X.opS rfl rfl rfl rfl rfl ?_
  refine X.opS rfl rfl rfl rfl rfl ?_
  refine X.opS rfl rfl rfl rfl rfl ?_
  refine X.opS rfl rfl rfl rfl rfl ?_
  refine X.opS rfl rfl rfl rfl rfl ?_
  refine X.opw X.wN rfl (X.pickF (v := .bool false) rfl rfl) ?_
  refine X.opsEnd ?_
  refine X.condF rfl ?_
  refine X.skip ?_
  refine X.seq ?_
  refine X.regionD (fun k => k = w.heap.size) 10 (by kernel_rfl) (by kernel_rfl) (fun w2 hk2 hz2 => ?_)
  refine X.dTake 0 rfl (by kernel_rfl) (by kernel_rfl) (by kernel_rfl) (X.dwN rfl) (fun w' hk' => X.move rfl) ?_
  refine X.dTake 1 rfl (by kernel_rfl) (by kernel_rfl) (by kernel_rfl) (X.dwN rfl) (fun w' hk' => X.nilCk rfl) ?_
  refine X.dTake 2 rfl (by kernel_rfl) (by kernel_rfl) (by kernel_rfl) (X.dwN rfl) (fun w' hk' => X.fldB (j := 1) Try.underlying112 rfl rfl Try.sizeOf29 rfl) ?_
  refine X.dTake 3 rfl (by kernel_rfl) (by kernel_rfl) (by kernel_rfl) (X.dwN rfl) (fun w' hk' => X.loadNB Try.isAgg29 Try.sizeOf29 (hB.keep ((hk1.trans hk2).step hk' (by intros; (try simp only [] at *); omega))) rfl rfl rfl) ?_
  refine X.dTake 4 rfl (by kernel_rfl) (by kernel_rfl) (by kernel_rfl) (X.dwN rfl) (fun w' hk' => X.move rfl) ?_
  refine X.dTake 5 rfl (by kernel_rfl) (by kernel_rfl) (by kernel_rfl) (X.dwN rfl) (fun w' hk' => X.nilCk rfl) ?_
  refine X.dTake 6 rfl (by kernel_rfl) (by kernel_rfl) (by kernel_rfl) (X.dwN rfl) (fun w' hk' => X.fldB (j := 4) Try.underlying112 rfl rfl Try.sizeOf4 rfl) ?_
  refine X.dTake 7 rfl (by kernel_rfl) (by kernel_rfl) (by kernel_rfl) (X.dwN rfl) (fun w' hk' => X.load1B Try.isAgg4 (hB.keep ((hk1.trans hk2).step hk' (by intros; (try simp only [] at *); omega))) rfl rfl) ?_
  refine X.dTake 8 rfl (by kernel_rfl) (by kernel_rfl) (by kernel_rfl) (X.dwN rfl) (fun w' hk' => X.not_ rfl) ?_
  refine X.dE (i := 9) (by kernel_rfl) rfl (X.dwN rfl) (X.storeNE Try.sizeOf29 (hB1.keep hk2) rfl rfl rfl rfl (fun u hu => by simp at hu; rcases hu with rfl | rfl <;> rfl)) (by rintro _ w3 ⟨hB3, hx3, hz3⟩ _; exact hx3.mono (fun k _ h => by (try simp only [] at *); omega)) ?_
  rintro _ w3 ⟨hB3, hx3, hz3⟩
  refine X.dStep (i := 10) (by kernel_rfl) rfl (X.dwN rfl) (X.assign (v := .bool _) rfl) (fun h => absurd h (by decide)) ?_
  refine X.dEnd (by kernel_rfl) ?_
  refine X.ret_unw (X.unwR2 Try.func48 Try.results48 (X.ResOk.cell rfl (X.lvN Try.isAgg29 Try.sizeOf29 hB3 rfl)) (show X.ResOk _ _ _ (.tmp 3) (.bool _) from rfl) ?_)
  exact ⟨rfl, ((hk1.trans hk2).step hx3 (by intros; (try simp only [] at *); omega))⟩
-- f48 "(*pedigree/merge.head[pedigree/pedigreeref09.Thing]).look" params [85] results [29, 4] -> [(ResultVar.
set_option maxHeartbeats 4000000 in
set_option maxRecDepth 100000 in
theorem lookn_c (hb : Nat) (x : TH) (w : World) (hB : Blk w hb [.nilIface, .int .i8 x.1, .int .i64 x.2, .bool false, .bool false] 112) : Ret Try.prog 48 #[.pointer (some ⟨hb, 0, none⟩)] w fun r w' => r = .tuple #[evT x, .bool false] ∧ Blk w' hb [.nilIface, .int .i8 x.1, .int .i64 x.2, .bool true, .bool true] 112 ∧ Ext (fun k => k = hb) w w' := by
  have hhb := hB.lt
  refine X.enter Try.func48 rfl Try.ntmps48 rfl ?_
  refine X.seq ?_
  refine X.region ?_
  refine X.opE X.wN rfl (X.allocE Try.zeroValue29 rfl) ?_
  rintro _ w1 ⟨rfl, hB1, hk1, hz1⟩
  refine X.opw X.wN rfl (X.assign rfl) ?_
  refine X.opsEnd ?_
  refine X.seq ?_
  refine X.seq ?_
  refine X.region ?_
  refine X.opw X.wN rfl (X.move rfl) ?_
  refine X.opw X.wN rfl (X.nilCk rfl) ?_
  refine X.opw X.wN rfl (X.fldB (j := 3) Try.underlying112 rfl rfl Try.sizeOf4 rfl) ?_
  refine X.opw X.wN rfl (X.load1B Try.isAgg4 (hB.keep hk1) rfl rfl) ?_
  refine X.opw X.wN rfl (X.not_ rfl) ?_
  refine X.opw X.wN rfl (X.move (v := .bool true) rfl) ?_
  refine X.opw (X.wG rfl rfl rfl) rfl (X.move rfl) ?_
  refine X.opw (X.wG rfl rfl rfl) rfl (X.nilCk rfl) ?_
  refine X.opw (X.wG rfl rfl rfl) rfl (X.fldB (j := 4) Try.underlying112 rfl rfl Try.sizeOf4 rfl) ?_
  refine X.opw (X.wG rfl rfl rfl) rfl (X.load1B Try.isAgg4 (hB.keep hk1) rfl rfl) ?_
  refine X.opw (X.wG rfl rfl rfl) rfl (X.not_ rfl) ?_
  refine X.opw X.wN rfl (X.pickT (v := .bool true) rfl rfl) ?_
  refine X.opsEnd ?_
  refine X.condT rfl ?_
  refine X.seq ?_
  refine X.region ?_
  refine X.opw X.wN rfl (X.move rfl) ?_
  refine X.opw X.wN rfl (X.nilCk rfl) ?_
  refine X.opw X.wN rfl (X.fldB (j := 3) Try.underlying112 rfl rfl Try.sizeOf4 rfl) ?_
  refine X.opE X.wN rfl (X.storeE Try.sizeOf4 (hB.keep hk1) rfl rfl rfl rfl) ?_
  rintro _ w2 ⟨hB2, hx2, hz2⟩
  refine X.opsEnd ?_
  refine X.seq ?_
  refine X.region ?_
  refine X.opw X.wN rfl (X.assign rfl) ?_
  refine X.opsEnd ?_
  refine X.seq ?_
  refine X.seq ?_
  refine X.region ?_
  refine X.opw X.wN rfl (X.move rfl) ?_
  refine X.opw X.wN rfl (X.nilCk rfl) ?_
  refine X.opw X.wN rfl (X.fldB (j := 0) Try.underlying112 rfl rfl Try.sizeOf33 rfl) ?_
  refine X.opw X.wN rfl (X.load1B Try.isAgg33 hB2 rfl rfl) ?_
  refine X.opw X.wN rfl (X.neIf0 Try.underlying33 rfl rfl) ?_
  refine X.opsEnd ?_
  refine X.condF rfl ?_
  refine X.skip ?_
  refine X.region ?_
  refine X.opw X.wN rfl (X.move rfl) ?_
  refine X.opw X.wN rfl (X.move (v := .bool false) rfl) ?_
  refine X.opw X.wN rfl (X.not_ rfl) ?_
  refine X.opw X.wN rfl (X.nilCk rfl) ?_
  refine X.opw X.wN rfl (X.fldB (j := 4) Try.underlying112 rfl rfl Try.sizeOf4 rfl) ?_
  refine X.opE X.wN rfl (X.storeE Try.sizeOf4 hB2 rfl rfl rfl rfl) ?_
  rintro _ w3 ⟨hB3, hx3, hz3⟩
  refine X.opsEnd ?_
  refine X.seq ?_
  refine X.regionD (fun k => k = w.heap.size) 10 (by kernel_rfl) (by kernel_rfl) (fun w4 hk4 hz4 => ?_)
  refine X.dTake 0 rfl (by kernel_rfl) (by kernel_rfl) (by kernel_rfl) (X.dwN rfl) (fun w' hk' => X.move rfl) ?_
  refine X.dTake 1 rfl (by kernel_rfl) (by kernel_rfl) (by kernel_rfl) (X.dwN rfl) (fun w' hk' => X.nilCk rfl) ?_
  refine X.dTake 2 rfl (by kernel_rfl) (by kernel_rfl) (by kernel_rfl) (X.dwN rfl) (fun w' hk' => X.fldB (j := 1) Try.underlying112 rfl rfl Try.sizeOf29 rfl) ?_
  refine X.dTake 3 rfl (by kernel_rfl) (by kernel_rfl) (by kernel_rfl) (X.dwN rfl) (fun w' hk' => X.loadNB Try.isAgg29 Try.sizeOf29 ((hB3.keep hk4).ext hk' (by intros; (try simp only []); omega)) rfl rfl rfl) ?_
  refine X.dTake 4 rfl (by kernel_rfl) (by kernel_rfl) (by kernel_rfl) (X.dwN rfl) (fun w' hk' => X.move rfl) ?_
  refine X.dTake 5 rfl (by kernel_rfl) (by kernel_rfl) (by kernel_rfl) (X.dwN rfl) (fun w' hk' => X.nilCk rfl) ?_
  refine X.dTake 6 rfl (by kernel_rfl) (by kernel_rfl) (by kernel_rfl) (X.dwN rfl) (fun w' hk' => X.fldB (j := 4) Try.underlying112 rfl rfl Try.sizeOf4 rfl) ?_
  refine X.dTake 7 rfl (by kernel_rfl) (by kernel_rfl) (by kernel_rfl) (X.dwN rfl) (fun w' hk' => X.load1B Try.isAgg4 ((hB3.keep hk4).ext hk' (by intros; (try simp only []); omega)) rfl rfl) ?_
  refine X.dTake 8 rfl (by kernel_rfl) (by kernel_rfl) (by kernel_rfl) (X.dwN rfl) (fun w' hk' => X.not_ rfl) ?_
  refine X.dE (i := 9) (by kernel_rfl) rfl (X.dwN rfl) (X.storeNE Try.sizeOf29 (((hB1.ext hx2 (by intros; (try simp only []); omega)).ext hx3 (by intros; (try simp only []); omega)).keep hk4) rfl rfl rfl rfl (fun u hu => by simp at hu; rcases hu with rfl | rfl <;> rfl)) (by rintro _ w5 ⟨hB5, hx5, hz5⟩ _; exact hx5.mono (fun k _ h => by (try simp only [] at *); omega)) ?_
  rintro _ w5 ⟨hB5, hx5, hz5⟩
  refine X.dStep (i := 10) (by kernel_rfl) rfl (X.dwN rfl) (X.assign (v := .bool _) rfl) (fun h => absurd h (by decide)) ?_
  refine X.dEnd (by kernel_rfl) ?_
  refine X.ret_unw (X.unwR2 Try.func48 Try.results48 (X.ResOk.cell rfl (X.lvN Try.isAgg29 Try.sizeOf29 hB5 rfl)) (show X.ResOk _ _ _ (.tmp 3) (.bool _) from rfl) ?_)
  exact ⟨rfl, ((hB3.keep hk4).ext hx5 (by intros; (try simp only []); omega)), (Ext.andThen (Ext.andThen (Ext.andThen (Ext.andThen (Ext.andThen (Ext.refl (fun k => k = hb) _) hk1 (by intro k h1 h2; first | exact h2 | exact .inl h2 | exact .inr h2 | exact (h2 : False).elim | (exfalso; (try simp only [] at *); omega))) hx2 (by intro k h1 h2; first | exact h2 | exact .inl h2 | exact .inr h2 | exact (h2 : False).elim | (exfalso; (try simp only [] at *); omega))) hx3 (by intro k h1 h2; first | exact h2 | exact .inl h2 | exact .inr h2 | exact (h2 : False).elim | (exfalso; (try simp only [] at *); omega))) hk4 (by intro k h1 h2; first | exact h2 | exact .inl h2 | exact .inr h2 | exact (h2 : False).elim | (exfalso; (try simp only [] at *); omega))) hx5 (by intro k h1 h2; first | exact h2 | exact .inl h2 | exact .inr h2 | exact (h2 : False).elim | (exfalso; (try simp only [] at *); omega)))⟩
-- f48 "(*pedigree/merge.head[pedigree/pedigreeref09.Thing]).look" params [85] results [29, 4] -> [(ResultVar.
set_option maxHeartbeats 4000000 in
set_option maxRecDepth 100000 in
theorem lookc_c {B : Nat} {T : Nat → Prop} {p : Value} {ys : List TH} (hb : Nat) (x : TH) (w : World) (hB : Blk w hb [(.iface 84 p), .int .i8 x.1, .int .i64 x.2, .bool false, .bool false] 112) (hC : Cur Try.prog evT (0, 0) 98 B T p ys w) (hBs : B ≤ w.heap.size) (hBh : B ≤ hb) (hTh : ¬ T hb) (hTb : ∀ k, T k → k < w.heap.size) :
    Ret Try.prog 48 #[.pointer (some ⟨hb, 0, none⟩)] w fun r w' => r = .tuple #[evT (ys.headD (0, 0)), .bool (!ys.isEmpty)] ∧ Blk w' hb [(.iface 84 p), .int .i8 (ys.headD (0, 0)).1, .int .i64 (ys.headD (0, 0)).2, .bool true, .bool ys.isEmpty] 112 ∧ Cur Try.prog evT (0, 0) 98 B T p ys.tail w' ∧ Ext (fun k => T k ∨ k = hb) w w' := by
  have hhb := hB.lt
  refine X.enter Try.func48 rfl Try.ntmps48 rfl ?_
  refine X.seq ?_
  refine X.region ?_
  refine X.opE X.wN rfl (X.allocE Try.zeroValue29 rfl) ?_
  rintro _ w1 ⟨rfl, hB1, hk1, hz1⟩
  refine X.opw X.wN rfl (X.assign rfl) ?_
  refine X.opsEnd ?_
  refine X.seq ?_
  refine X.seq ?_
  refine X.region ?_
  refine X.opw X.wN rfl (X.move rfl) ?_
  refine X.opw X.wN rfl (X.nilCk rfl) ?_
  refine X.opw X.wN rfl (X.fldB (j := 3) Try.underlying112 rfl rfl Try.sizeOf4 rfl) ?_
  refine X.opw X.wN rfl (X.load1B Try.isAgg4 (hB.keep hk1) rfl rfl) ?_
  refine X.opw X.wN rfl (X.not_ rfl) ?_
  refine X.opw X.wN rfl (X.move (v := .bool true) rfl) ?_
  refine X.opw (X.wG rfl rfl rfl) rfl (X.move rfl) ?_
  refine X.opw (X.wG rfl rfl rfl) rfl (X.nilCk rfl) ?_
  refine X.opw (X.wG rfl rfl rfl) rfl (X.fldB (j := 4) Try.underlying112 rfl rfl Try.sizeOf4 rfl) ?_
  refine X.opw (X.wG rfl rfl rfl) rfl (X.load1B Try.isAgg4 (hB.keep hk1) rfl rfl) ?_
  refine X.opw (X.wG rfl rfl rfl) rfl (X.not_ rfl) ?_
  refine X.opw X.wN rfl (X.pickT (v := .bool true) rfl rfl) ?_
  refine X.opsEnd ?_
  refine X.condT rfl ?_
  refine X.seq ?_
  refine X.region ?_
  refine X.opw X.wN rfl (X.move rfl) ?_
  refine X.opw X.wN rfl (X.nilCk rfl) ?_
  refine X.opw X.wN rfl (X.fldB (j := 3) Try.underlying112 rfl rfl Try.sizeOf4 rfl) ?_
  refine X.opE X.wN rfl (X.storeE Try.sizeOf4 (hB.keep hk1) rfl rfl rfl rfl) ?_
  rintro _ w2 ⟨hB2, hx2, hz2⟩
  refine X.opsEnd ?_
  refine X.seq ?_
  refine X.region ?_
  refine X.opw X.wN rfl (X.assign rfl) ?_
  refine X.opsEnd ?_
  refine X.seq ?_
  refine X.seq ?_
  refine X.region ?_
  refine X.opw X.wN rfl (X.move rfl) ?_
  refine X.opw X.wN rfl (X.nilCk rfl) ?_
  refine X.opw X.wN rfl (X.fldB (j := 0) Try.underlying112 rfl rfl Try.sizeOf33 rfl) ?_
  refine X.opw X.wN rfl (X.load1B Try.isAgg33 hB2 rfl rfl) ?_
  refine X.opw X.wN rfl (X.neIf1 Try.underlying33 rfl rfl) ?_
  refine X.opsEnd ?_
  refine X.condT rfl ?_
  refine X.region ?_
  refine X.opw X.wN rfl (X.move rfl) ?_
  refine X.opw X.wN rfl (X.move rfl) ?_
  refine X.opw X.wN rfl (X.nilCk rfl) ?_
  refine X.opw X.wN rfl (X.fldB (j := 0) Try.underlying112 rfl rfl Try.sizeOf33 rfl) ?_
  refine X.opw X.wN rfl (X.load1B Try.isAgg33 hB2 rfl rfl) ?_
  refine X.opE X.wN rfl (X.invokeE rfl (next_m _) ((hC.keep hk1).ext hx2 (by intro k hk hk2; first | (replace hk2 : k = hb := hk2; rw [hk2]; exact ⟨hBh, hTh⟩) | refine ⟨by (try simp only [] at *); omega, fun ht => by have := hTb k ht; (try simp only [] at *); omega⟩)).next Try.call98) ?_
  rintro _ w3 ⟨rfl, hx3, hC3⟩
  have hx3' := hx3.size
  refine X.opw X.wN rfl (X.move rfl) ?_
  refine X.opw X.wN rfl (X.extr rfl rfl) ?_
  refine X.opw X.wN rfl (X.extr rfl rfl) ?_
  refine X.opw X.wN rfl (X.nilCk rfl) ?_
  refine X.opw X.wN rfl (X.fldB (j := 1) Try.underlying112 rfl rfl Try.sizeOf29 rfl) ?_
  refine X.opE X.wN rfl (X.storeAtE Try.sizeOf29 (hB2.ext hx3 hTh) rfl rfl rfl rfl (fun u hu => by simp at hu; rcases hu with rfl | rfl <;> rfl)) ?_
  rintro _ w4 ⟨hB4, hx4, hz4⟩
  refine X.opw X.wN rfl (X.assign (v := .bool _) rfl) ?_
  refine X.opsEnd ?_
  refine X.region ?_
  refine X.opw X.wN rfl (X.move rfl) ?_
  refine X.opw X.wN rfl (X.move (v := .bool _) rfl) ?_
  refine X.opw X.wN rfl (X.not_ rfl) ?_
  refine X.opw X.wN rfl (X.nilCk rfl) ?_
  refine X.opw X.wN rfl (X.fldB (j := 4) Try.underlying112 rfl rfl Try.sizeOf4 rfl) ?_
  refine X.opE X.wN rfl (X.storeE Try.sizeOf4 hB4 rfl rfl rfl rfl) ?_
  rintro _ w5 ⟨hB5, hx5, hz5⟩
  refine X.opsEnd ?_
  refine X.seq ?_
  refine X.regionD (fun k => k = w.heap.size) 10 (by kernel_rfl) (by kernel_rfl) (fun w6 hk6 hz6 => ?_)
  refine X.dTake 0 rfl (by kernel_rfl) (by kernel_rfl) (by kernel_rfl) (X.dwN rfl) (fun w' hk' => X.move rfl) ?_
  refine X.dTake 1 rfl (by kernel_rfl) (by kernel_rfl) (by kernel_rfl) (X.dwN rfl) (fun w' hk' => X.nilCk rfl) ?_
  refine X.dTake 2 rfl (by kernel_rfl) (by kernel_rfl) (by kernel_rfl) (X.dwN rfl) (fun w' hk' => X.fldB (j := 1) Try.underlying112 rfl rfl Try.sizeOf29 rfl) ?_
  refine X.dTake 3 rfl (by kernel_rfl) (by kernel_rfl) (by kernel_rfl) (X.dwN rfl) (fun w' hk' => X.loadNB Try.isAgg29 Try.sizeOf29 ((hB5.keep hk6).ext hk' (by intros; (try simp only []); omega)) rfl rfl rfl) ?_
  refine X.dTake 4 rfl (by kernel_rfl) (by kernel_rfl) (by kernel_rfl) (X.dwN rfl) (fun w' hk' => X.move rfl) ?_
  refine X.dTake 5 rfl (by kernel_rfl) (by kernel_rfl) (by kernel_rfl) (X.dwN rfl) (fun w' hk' => X.nilCk rfl) ?_
  refine X.dTake 6 rfl (by kernel_rfl) (by kernel_rfl) (by kernel_rfl) (X.dwN rfl) (fun w' hk' => X.fldB (j := 4) Try.underlying112 rfl rfl Try.sizeOf4 rfl) ?_
  refine X.dTake 7 rfl (by kernel_rfl) (by kernel_rfl) (by kernel_rfl) (X.dwN rfl) (fun w' hk' => X.load1B Try.isAgg4 ((hB5.keep hk6).ext hk' (by intros; (try simp only []); omega)) rfl rfl) ?_
  refine X.dTake 8 rfl (by kernel_rfl) (by kernel_rfl) (by kernel_rfl) (X.dwN rfl) (fun w' hk' => X.not_ rfl) ?_
  refine X.dE (i := 9) (by kernel_rfl) rfl (X.dwN rfl) (X.storeNE Try.sizeOf29 (((((hB1.ext hx2 (by intros; (try simp only []); omega)).ext hx3 (fun h => by have := hTb _ h; omega)).ext hx4 (by intros; (try simp only []); omega)).ext hx5 (by intros; (try simp only []); omega)).keep hk6) rfl rfl rfl rfl (fun u hu => by simp at hu; rcases hu with rfl | rfl <;> rfl)) (by rintro _ w7 ⟨hB7, hx7, hz7⟩ _; exact hx7.mono (fun k _ h => by (try simp only [] at *); omega)) ?_
  rintro _ w7 ⟨hB7, hx7, hz7⟩
  refine X.dStep (i := 10) (by kernel_rfl) rfl (X.dwN rfl) (X.assign (v := .bool _) rfl) (fun h => absurd h (by decide)) ?_
  refine X.dEnd (by kernel_rfl) ?_
  refine X.ret_unw (X.unwR2 Try.func48 Try.results48 (X.ResOk.cell rfl (X.lvN Try.isAgg29 Try.sizeOf29 hB7 rfl)) (show X.ResOk _ _ _ (.tmp 3) (.bool _) from rfl) ?_)
  cases ys with
  | nil => exact ⟨rfl, ((hB5.keep hk6).ext hx7 (by intros; (try simp only []); omega)), ((((hC3.ext hx4 (by intro k hk hk2; first | (replace hk2 : k = hb := hk2; rw [hk2]; exact ⟨hBh, hTh⟩) | refine ⟨by (try simp only [] at *); omega, fun ht => by have := hTb k ht; (try simp only [] at *); omega⟩)).ext hx5 (by intro k hk hk2; first | (replace hk2 : k = hb := hk2; rw [hk2]; exact ⟨hBh, hTh⟩) | refine ⟨by (try simp only [] at *); omega, fun ht => by have := hTb k ht; (try simp only [] at *); omega⟩)).keep hk6).ext hx7 (by intro k hk hk2; first | (replace hk2 : k = hb := hk2; rw [hk2]; exact ⟨hBh, hTh⟩) | refine ⟨by (try simp only [] at *); omega, fun ht => by have := hTb k ht; (try simp only [] at *); omega⟩)), (Ext.andThen (Ext.andThen (Ext.andThen (Ext.andThen (Ext.andThen (Ext.andThen (Ext.andThen (Ext.refl (fun k => T k ∨ k = hb) _) hk1 (by intro k h1 h2; first | exact h2 | exact .inl h2 | exact .inr h2 | exact (h2 : False).elim | (exfalso; (try simp only [] at *); omega))) hx2 (by intro k h1 h2; first | exact h2 | exact .inl h2 | exact .inr h2 | exact (h2 : False).elim | (exfalso; (try simp only [] at *); omega))) hx3 (by intro k h1 h2; first | exact h2 | exact .inl h2 | exact .inr h2 | exact (h2 : False).elim | (exfalso; (try simp only [] at *); omega))) hx4 (by intro k h1 h2; first | exact h2 | exact .inl h2 | exact .inr h2 | exact (h2 : False).elim | (exfalso; (try simp only [] at *); omega))) hx5 (by intro k h1 h2; first | exact h2 | exact .inl h2 | exact .inr h2 | exact (h2 : False).elim | (exfalso; (try simp only [] at *); omega))) hk6 (by intro k h1 h2; first | exact h2 | exact .inl h2 | exact .inr h2 | exact (h2 : False).elim | (exfalso; (try simp only [] at *); omega))) hx7 (by intro k h1 h2; first | exact h2 | exact .inl h2 | exact .inr h2 | exact (h2 : False).elim | (exfalso; (try simp only [] at *); omega)))⟩
  | cons y ys => exact ⟨rfl, ((hB5.keep hk6).ext hx7 (by intros; (try simp only []); omega)), ((((hC3.ext hx4 (by intro k hk hk2; first | (replace hk2 : k = hb := hk2; rw [hk2]; exact ⟨hBh, hTh⟩) | refine ⟨by (try simp only [] at *); omega, fun ht => by have := hTb k ht; (try simp only [] at *); omega⟩)).ext hx5 (by intro k hk hk2; first | (replace hk2 : k = hb := hk2; rw [hk2]; exact ⟨hBh, hTh⟩) | refine ⟨by (try simp only [] at *); omega, fun ht => by have := hTb k ht; (try simp only [] at *); omega⟩)).keep hk6).ext hx7 (by intro k hk hk2; first | (replace hk2 : k = hb := hk2; rw [hk2]; exact ⟨hBh, hTh⟩) | refine ⟨by (try simp only [] at *); omega, fun ht => by have := hTb k ht; (try simp only [] at *); omega⟩)), (Ext.andThen (Ext.andThen (Ext.andThen (Ext.andThen (Ext.andThen (Ext.andThen (Ext.andThen (Ext.refl (fun k => T k ∨ k = hb) _) hk1 (by intro k h1 h2; first | exact h2 | exact .inl h2 | exact .inr h2 | exact (h2 : False).elim | (exfalso; (try simp only [] at *); omega))) hx2 (by intro k h1 h2; first | exact h2 | exact .inl h2 | exact .inr h2 | exact (h2 : False).elim | (exfalso; (try simp only [] at *); omega))) hx3 (by intro k h1 h2; first | exact h2 | exact .inl h2 | exact .inr h2 | exact (h2 : False).elim | (exfalso; (try simp only [] at *); omega))) hx4 (by intro k h1 h2; first | exact h2 | exact .inl h2 | exact .inr h2 | exact (h2 : False).elim | (exfalso; (try simp only [] at *); omega))) hx5 (by intro k h1 h2; first | exact h2 | exact .inl h2 | exact .inr h2 | exact (h2 : False).elim | (exfalso; (try simp only [] at *); omega))) hk6 (by intro k h1 h2; first | exact h2 | exact .inl h2 | exact .inr h2 | exact (h2 : False).elim | (exfalso; (try simp only [] at *); omega))) hx7 (by intro k h1 h2; first | exact h2 | exact .inl h2 | exact .inr h2 | exact (h2 : False).elim | (exfalso; (try simp only [] at *); omega)))⟩
-- f49 "(*pedigree/merge.head[pedigree/pedigreeref09.Thing]).pass" params [85] results [] -> [] nfree 0 ntmps 
set_option maxHeartbeats 4000000 in
set_option maxRecDepth 100000 in
theorem passb_c (hb : Nat) (c : Value) (x : TH) (t o : Bool) (w : World) (hB : Blk w hb [c, .int .i8 x.1, .int .i64 x.2, .bool t, .bool o] 112) : Ret Try.prog 49 #[.pointer (some ⟨hb, 0, none⟩)] w fun r w' => r = .tuple #[] ∧ Blk w' hb [c, .int .i8 x.1, .int .i64 x.2, .bool false, .bool o] 112 ∧ Ext (fun k => k = hb) w w' := by
  have hhb := hB.lt
  refine X.enter Try.func49 rfl Try.ntmps49 rfl ?_
  refine X.region ?_
  refine X.opw X.wN rfl (X.move rfl) ?_
  refine X.opw X.wN rfl (X.nilCk rfl) ?_
  refine X.opw X.wN rfl (X.fldB (j := 3) Try.underlying112 rfl rfl Try.sizeOf4 rfl) ?_
  refine X.opE X.wN rfl (X.storeE Try.sizeOf4 hB rfl rfl rfl rfl) ?_
  rintro _ w1 ⟨hB1, hx1, hz1⟩
  refine X.opsEnd ?_
  refine X.end0 Try.func49 Try.results49 ?_
  exact ⟨rfl, hB1, (Ext.andThen (Ext.refl (fun k => k = hb) _) hx1 (by intro k h1 h2; first | exact h2 | exact .inl h2 | exact .inr h2 | exact (h2 : False).elim | (exfalso; (try simp only [] at *); omega)))⟩
end Go.Proofs.Ytgfficbkajcdpaa

namespace Go.Proofs.Ytgfficbkajcdpaa
open Go Go.Proofs.Ytgfficbkajcdpaa.X
set_option linter.unusedVariables false
set_option linter.unusedSimpArgs false

abbrev NX : FuncId := 98
abbrev hdL (c : Value) (x : TH) (tk ov : Bool) : List Value := [c, .int .i8 x.1, .int .i64 x.2, .bool tk, .bool ov]
/-- A head that has ys before it, asked already: x is the first. -/
def HdT (B : Nat) (T : Nat → Prop) (hb : Nat) (ys : List TH) (x : TH) (w : World) : Prop :=
  ∃ c, (∃ ys', ys = x :: ys' ∧ Blk w hb (hdL c x true false) 112 ∧ CV B T c ys' w) ∨ (ys = [] ∧ Blk w hb (hdL c x true true) 112 ∧ c.oneCell' = true)
/-- A head that has ys before it. -/
def Hd (B : Nat) (T : Nat → Prop) (hb : Nat) (ys : List TH) (w : World) : Prop :=
  (∃ c x, Blk w hb (hdL c x false false) 112 ∧ CV B T c ys w) ∨ ∃ x, HdT B T hb ys x w
section
variable {B : Nat} {T : Nat → Prop} {hb : Nat} {ys : List TH} {x : TH} {w w' : World}
theorem HdT.ext {U : Nat → Prop} (h : HdT B T hb ys x w) (e : Ext U w w') (hU : ∀ k, k < w.heap.size → U k → B ≤ k ∧ ¬ T k ∧ k ≠ hb) : HdT B T hb ys x w' := by
  obtain ⟨c, ⟨ys', h1, h2, h3⟩ | ⟨h1, h2, h3⟩⟩ := h
  · exact ⟨c, .inl ⟨ys', h1, h2.ext e (fun h => (hU _ h2.lt h).2.2 rfl), h3.agree (Agree.of_ext e fun k hk hu => ⟨(hU k hk hu).1, (hU k hk hu).2.1⟩)⟩⟩
  · exact ⟨c, .inr ⟨h1, h2.ext e (fun h => (hU _ h2.lt h).2.2 rfl), h3⟩⟩
theorem Hd.ext {U : Nat → Prop} (h : Hd B T hb ys w) (e : Ext U w w') (hU : ∀ k, k < w.heap.size → U k → B ≤ k ∧ ¬ T k ∧ k ≠ hb) : Hd B T hb ys w' := by
  rcases h with ⟨c, x, h1, h2⟩ | ⟨x, h⟩
  · exact .inl ⟨c, x, h1.ext e (fun h => (hU _ h1.lt h).2.2 rfl), h2.agree (Agree.of_ext e fun k hk hu => ⟨(hU k hk hu).1, (hU k hk hu).2.1⟩)⟩
  · exact .inr ⟨x, h.ext e hU⟩
theorem HdT.head {y : TH} {l : List TH} (h : HdT B T hb (y :: l) x w) : x = y := by
  obtain ⟨c, ⟨ys', h1, _⟩ | ⟨h1, _⟩⟩ := h
  · injection h1 with h1; exact h1.symm
  · cases h1
theorem look_c (w : World) (h : Hd B T hb ys w) (hBs : B ≤ w.heap.size) (hBh : B ≤ hb) (hTh : ¬ T hb) (hTb : ∀ k, T k → k < w.heap.size) :
    Ret Try.prog 48 #[.pointer (some ⟨hb, 0, none⟩)] w fun r w' => ∃ x, r = .tuple #[evT x, .bool (!ys.isEmpty)] ∧ HdT B T hb ys x w' ∧ Ext (fun k => T k ∨ k = hb) w w' := by
  rcases h with ⟨c, x, h1, ⟨rfl, rfl⟩ | ⟨p, rfl, h2⟩⟩ | ⟨x, c, ⟨ys', rfl, h1, h2⟩ | ⟨rfl, h1, h2⟩⟩
  · refine (lookn_c hb x w h1).mono fun r w' ⟨e, b, k⟩ => ⟨x, e, ⟨_, .inr ⟨rfl, b, rfl⟩⟩, k.mono fun _ _ h => .inr h⟩
  · refine (lookc_c hb x w h1 h2 hBs hBh hTh hTb).mono fun r w' ⟨e, b, k, g⟩ => ?_
    cases ys with
    | nil => exact ⟨_, e, ⟨_, .inr ⟨rfl, b, rfl⟩⟩, g⟩
    | cons y ys => exact ⟨_, e, ⟨_, .inl ⟨ys, rfl, b, .inr ⟨p, rfl, k⟩⟩⟩, g⟩
  · exact (lookt_c hb c x w h1).mono fun r w' ⟨e, k⟩ => ⟨x, e, ⟨c, .inl ⟨ys', rfl, h1.keep k, h2.agree (Agree.of_keep k)⟩⟩, k.mono fun _ _ h => h.elim⟩
  · exact (looko_c hb c x w h1).mono fun r w' ⟨e, k⟩ => ⟨x, e, ⟨c, .inr ⟨rfl, h1.keep k, h2⟩⟩, k.mono fun _ _ h => h.elim⟩
theorem pass_c {y : TH} (w : World) (h : HdT B T hb (y :: ys) x w) (hBh : B ≤ hb) (hTh : ¬ T hb) :
    Ret Try.prog 49 #[.pointer (some ⟨hb, 0, none⟩)] w fun r w' => r = .tuple #[] ∧ Hd B T hb ys w' ∧ Ext (fun k => k = hb) w w' := by
  obtain ⟨c, ⟨ys', h1, h2, h3⟩ | ⟨h1, _⟩⟩ := h
  · obtain ⟨rfl, rfl⟩ := List.cons.inj h1
    exact (passb_c hb c _ true false w h2).mono fun r w' ⟨e, b, k⟩ => ⟨e, .inl ⟨c, _, b, h3.agree (Agree.of_ext k fun i _ hi => by rw [show i = hb from hi]; exact ⟨hBh, hTh⟩)⟩, k⟩
  · cases h1
end

/-! ### the merge of lists -/
abbrev PK := Option (Nat × TH)
def bestX (o : PK) : TH := (o.map (·.2)).getD (0, 0)
def bestP (hb : Nat → Nat) (o : PK) : Option Addr := o.map fun p => ⟨hb p.1, 0, none⟩
/-- The first of the least heads among the first. -/
def pk (L : Nat → List TH) : Nat → PK
  | 0 => none
  | j + 1 => match L j, pk L j with
    | [], o => o
    | y :: _, none => some (j, y)
    | y :: _, some (i, x) => if y.1 < x.1 then some (j, y) else some (i, x)
section
variable {L : Nat → List TH} {j : Nat}
theorem pk_nil (h : L j = []) : pk L (j + 1) = pk L j := by rw [pk, h]
theorem pk_new {y : TH} {l : List TH} (h : L j = y :: l) (h2 : (pk L j) = none ∨ y.1 < (bestX (pk L j)).1) : pk L (j + 1) = some (j, y) := by
  rw [pk, h]
  cases hp : pk L j with
  | none => rfl
  | some q =>
    rw [hp] at h2
    simp [bestX] at h2
    simp [h2]
theorem pk_old {y : TH} {l : List TH} (h : L j = y :: l) (h1 : (pk L j) ≠ none) (h2 : ¬ y.1 < (bestX (pk L j)).1) : pk L (j + 1) = pk L j := by
  rw [pk, h]
  cases hp : pk L j with
  | none => exact absurd hp h1
  | some q =>
    rw [hp] at h2
    simp [bestX] at h2
    simp [show ¬ y.1 < q.2.1 by omega]
theorem pk_some : ∀ {n i : Nat} {x : TH}, pk L n = some (i, x) → i < n ∧ ∃ l, L i = x :: l
  | 0, i, x, h => by cases h
  | n + 1, i, x, h => by
    rw [pk] at h
    split at h
    · obtain ⟨h1, h2⟩ := pk_some h; exact ⟨by omega, h2⟩
    · rename_i y l hl hp
      cases h; exact ⟨by omega, l, hl⟩
    · rename_i y l i' x' hl hp
      split at h
      · cases h; exact ⟨by omega, l, hl⟩
      · cases h; obtain ⟨h1, h2⟩ := pk_some hp; exact ⟨by omega, h2⟩
theorem pk_none : ∀ {n : Nat}, pk L n = none → ∀ i, i < n → L i = []
  | 0, _, i, h => by omega
  | n + 1, h, i, hi => by
    rw [pk] at h
    split at h
    · rename_i o hl
      rcases Nat.lt_succ_iff_lt_or_eq.1 hi with h1 | rfl
      · exact pk_none h i h1
      · exact hl
    · cases h
    · split at h <;> cases h
def updL (L : Nat → List TH) (i : Nat) : Nat → List TH := fun j => if j = i then (L j).tail else L j
def totL (L : Nat → List TH) : Nat → Nat
  | 0 => 0
  | n + 1 => totL L n + (L n).length
theorem totL_upd {x : TH} {l : List TH} {i : Nat} (h : L i = x :: l) : ∀ n, totL (updL L i) n + (if i < n then 1 else 0) = totL L n
  | 0 => by simp [totL]
  | n + 1 => by
    have := totL_upd h n
    rw [totL, totL]
    by_cases h1 : n = i
    · subst h1
      simp [updL, h] at this ⊢
      omega
    · have e : updL L i n = L n := by simp [updL, h1]
      rw [e]
      by_cases h2 : i < n
      · simp [h2, show i < n + 1 by omega] at this ⊢; omega
      · simp [h2, show ¬ i < n + 1 by omega] at this ⊢; omega
def mgF (n : Nat) : Nat → (Nat → List TH) → List TH
  | 0, _ => []
  | f + 1, L => match pk L n with
    | none => []
    | some (i, x) => x :: mgF n f (updL L i)
def mgC (n : Nat) (L : Nat → List TH) : List TH := mgF n (totL L n) L
theorem mgC_none {n : Nat} (h : pk L n = none) : mgC n L = [] := by
  rw [mgC]; cases totL L n with
  | zero => rfl
  | succ f => rw [mgF, h]
theorem mgC_some {n i : Nat} {x : TH} (h : pk L n = some (i, x)) : mgC n L = x :: mgC n (updL L i) := by
  obtain ⟨h1, l, h2⟩ := pk_some h
  have := totL_upd h2 n
  rw [if_pos h1] at this
  rw [mgC, ← this, mgF, h]
  rfl
theorem mgC_len : ∀ (t n : Nat) (L : Nat → List TH), totL L n = t → (mgC n L).length ≤ t
  | 0, n, L, h => by rw [mgC, h]; simp [mgF]
  | t + 1, n, L, h => by
    cases hp : pk L n with
    | none => rw [mgC_none hp]; simp
    | some q =>
      obtain ⟨i, x⟩ := q
      rw [mgC_some hp]
      obtain ⟨h1, l, h2⟩ := pk_some hp
      have := totL_upd h2 n
      rw [if_pos h1] at this
      have := mgC_len t n (updL L i) (by omega)
      simp; omega
end
end Go.Proofs.Ytgfficbkajcdpaa

namespace Go.Proofs.Ytgfficbkajcdpaa
open Go Go.Proofs.Ytgfficbkajcdpaa.X
set_option linter.unusedVariables false
set_option linter.unusedSimpArgs false
/-- Which blocks the heads and their cursors have. -/
structure HSet (B n : Nat) (hb : Nat → Nat) (Tj : Nat → Nat → Prop) (m : Nat) : Prop where
  bT : ∀ j, j < n → ∀ k, Tj j k → B ≤ k ∧ k < m
  bH : ∀ j, j < n → B ≤ hb j ∧ hb j < m
  tH : ∀ j, j < n → ¬ Tj j (hb j)
  dis : ∀ i j, i < n → j < n → i ≠ j → ∀ k, (Tj i k ∨ k = hb i) → ¬ (Tj j k ∨ k = hb j)
def UU (n : Nat) (hb : Nat → Nat) (Tj : Nat → Nat → Prop) : Nat → Prop := fun k => ∃ j, j < n ∧ (Tj j k ∨ k = hb j)
section
variable {B n m : Nat} {hb : Nat → Nat} {Tj : Nat → Nat → Prop} {L : Nat → List TH} {w wl wa wb : World}
theorem HSet.hU (h : HSet B n hb Tj m) : ∀ k, UU n hb Tj k → B ≤ k ∧ k < m := by
  rintro k ⟨j, hj, hk | hk⟩
  · exact h.bT j hj k hk
  · rw [hk]; exact h.bH j hj
theorem HSet.mono (h : HSet B n hb Tj m) {m' : Nat} (hm : m ≤ m') : HSet B n hb Tj m' :=
  ⟨fun j hj k hk => by have := h.bT j hj k hk; omega, fun j hj => by have := h.bH j hj; omega, h.tH, h.dis⟩
theorem heads_next {j : Nat} {x : TH} (HS : HSet B n hb Tj m) (hBm : B ≤ m) (hm : m ≤ wl.heap.size) (h1 : ∀ i, i < j → ∃ x, HdT B (Tj i) (hb i) (L i) x wl) (h2 : ∀ i, j ≤ i → i < n → Hd B (Tj i) (hb i) (L i) wl) (hj : j < n)
    (hH : HdT B (Tj j) (hb j) (L j) x wa) (x1 : Ext (fun k => Tj j k ∨ k = hb j) wl wa) (x2 : Ext (fun k => m ≤ k) wa wb) : (∀ i, i < j + 1 → ∃ x, HdT B (Tj i) (hb i) (L i) x wb) ∧ (∀ i, j + 1 ≤ i → i < n → Hd B (Tj i) (hb i) (L i) wb) := by
  have hU : ∀ i, i < n → ∀ k, m ≤ k → B ≤ k ∧ ¬ Tj i k ∧ k ≠ hb i := fun i hi k hk => ⟨by omega, fun h => by have := HS.bT i hi k h; omega, fun h => by have := HS.bH i hi; omega⟩
  have hV : ∀ i, i < n → i ≠ j → ∀ k, (Tj j k ∨ k = hb j) → B ≤ k ∧ ¬ Tj i k ∧ k ≠ hb i := fun i hi hne k hk => by
    have := HS.dis j i hj hi (fun e => hne e.symm) k hk
    exact ⟨(HS.hU k ⟨j, hj, hk⟩).1, fun h => this (.inl h), fun h => this (.inr h)⟩
  refine ⟨fun i hi => ?_, fun i hi hn => ?_⟩
  · by_cases e : i = j
    · subst e; exact ⟨x, hH.ext x2 fun k _ hk => hU i hj k hk⟩
    · obtain ⟨y, hy⟩ := h1 i (by omega)
      exact ⟨y, (hy.ext x1 fun k _ hk => hV i (by omega) e k hk).ext x2 fun k _ hk => hU i (by omega) k hk⟩
  · exact ((h2 i (by omega) hn).ext x1 fun k _ hk => hV i hn (by omega) k hk).ext x2 fun k _ hk => hU i hn k hk
theorem heads_pass {i : Nat} {x : TH} {l : List TH} (HS : HSet B n hb Tj m) (hBm : B ≤ m) (h1 : ∀ i, i < n → ∃ x, HdT B (Tj i) (hb i) (L i) x wl) (hi : i < n) (hl : L i = x :: l)
    (hH : Hd B (Tj i) (hb i) l wa) (x1 : Ext (fun k => k = hb i) wl wa) (x2 : Ext (fun k => m ≤ k) wa wb) : ∀ j, j < n → Hd B (Tj j) (hb j) (updL L i j) wb := by
  have hU : ∀ i, i < n → ∀ k, m ≤ k → B ≤ k ∧ ¬ Tj i k ∧ k ≠ hb i := fun i hi k hk => ⟨by omega, fun h => by have := HS.bT i hi k h; omega, fun h => by have := HS.bH i hi; omega⟩
  intro j hj
  refine Hd.ext ?_ x2 fun k _ hk => hU j hj k hk
  by_cases e : j = i
  · subst e; rw [updL, if_pos rfl, hl]; exact hH
  · rw [updL, if_neg e]
    refine Hd.ext (show Hd B (Tj j) (hb j) (L j) wl from .inr (h1 j hj)) x1 fun k _ hk => ?_
    have := HS.dis i j hi hj (fun h => e h.symm) k (.inr hk)
    exact ⟨by rw [show k = hb i from hk]; exact (HS.bH i hi).1, fun h => this (.inl h), fun h => this (.inr h)⟩
end
-- f47 "pedigree/merge.Merge[pedigree/pedigreeref09.Thing]$1" params [] results [29, 4] -> [(ResultVar.cell 2 
set_option maxHeartbeats 4000000 in
set_option maxRecDepth 100000 in
theorem Merge1_c (B n : Nat) (hb : Nat → Nat) (Tj : Nat → Nat → Prop) (L : Nat → List TH) (c0 c1 : Nat) (cv : Value) {lo hi : Nat} {A : Option Addr} {c : Nat} {vs : List Value} (w : World) (HS : HSet B n hb Tj w.heap.size) (hBw : B ≤ w.heap.size) (hn : n ≤ 1000000)
    (hsl : Sl KR1 lo hi w A n vs) (hhi : hi ≤ w.heap.size) (hvs : ∀ j, j < n → vs[j]? = some (.pointer (some ⟨hb j, 0, none⟩))) (hc0 : Blk w c0 [.slice A n c] 82) (hc1 : Blk w c1 [cv] 35) (hsep : ∀ k, UU n hb Tj k → ¬ (lo ≤ k ∧ k < hi) ∧ k ≠ c0 ∧ k ≠ c1) (hd : ∀ j, j < n → Hd B (Tj j) (hb j) (L j) w)
    (hcmp : ∀ (x y : TH) (wa : World), YC Try.prog cv [evT x, evT y] wa fun r wb => ∃ nc, r = .int .i64 nc ∧ (nc < 0 ↔ x.1 < y.1) ∧ Keep wa wb) :
    Ret Try.prog 47 #[.pointer (some ⟨c0, 0, none⟩), .pointer (some ⟨c1, 0, none⟩)] w fun r w' => r = hdV evT (0, 0) (mgC n L) ∧ Ext (UU n hb Tj) w w' ∧ (mgC n L ≠ [] → ∃ L', (mgC n L).tail = mgC n L' ∧ ∀ j, j < n → Hd B (Tj j) (hb j) (L' j) w') := by
  have hc0l := hc0.lt
  have hc1l := hc1.lt
  have hvl := hsl.len
  refine X.enter Try.func47 rfl Try.ntmps47 rfl ?_
  refine X.seq ?_
  refine X.region ?_
  refine X.opE X.wN rfl (X.allocE Try.zeroValue29 rfl) ?_
  rintro _ w1 ⟨rfl, hB1, hk1, hz1⟩
  refine X.opw X.wN rfl (X.assign rfl) ?_
  refine X.opsEnd ?_
  refine X.seq ?_
  refine X.region ?_
  refine X.opw X.wN rfl (X.assign rfl) ?_
  refine X.opsEnd ?_
  refine X.seq ?_
  refine X.seq ?_
  refine X.region ?_
  refine X.opw X.wN rfl (X.load1B Try.isAgg82 (hc0.keep hk1) rfl rfl) ?_
  refine X.opw X.wN rfl (X.lenSl Try.underlying82 rfl) ?_
  refine X.opw X.wN rfl (X.move rfl) ?_
  refine X.opsEnd ?_
  refine X.block ?_
  -- LOOP live: 1, 2=x, 3=ok*, 4=best*, 9, 10, 11*
  refine X.loopL (σ := Nat) (fun s => [(1, .pointer (some ⟨c1, 0, none⟩)), (2, .pointer (some ⟨w.heap.size, 0, none⟩)), (3, .bool (pk L s).isSome), (4, .pointer (bestP hb (pk L s))), (9, .slice A n c), (10, .int .i64 (n : Int)), (11, .int .i64 (s : Int))]) (fun s w' => s ≤ n ∧ (∀ i, i < s → ∃ x, HdT B (Tj i) (hb i) (L i) x w') ∧ (∀ i, s ≤ i → i < n → Hd B (Tj i) (hb i) (L i) w') ∧ Blk w' w.heap.size [.int .i8 (bestX (pk L s)).1, .int .i64 (bestX (pk L s)).2] 29 ∧ Sl KR1 lo hi w' A n vs ∧ Blk w' c0 [.slice A n c] 82 ∧ Blk w' c1 [cv] 35 ∧ Ext (UU n hb Tj) w w' ∧ w.heap.size < w'.heap.size) (fun s => n - s) 0 ⟨rfl, rfl, rfl, rfl, rfl, rfl, rfl, trivial⟩ ⟨by omega, fun i h => by omega, fun i _ h => (hd i h).ext hk1 (fun _ _ h => h.elim), hB1, (hsl.keep hk1), (hc0.keep hk1), (hc1.keep hk1), hk1.mono (fun _ _ h => h.elim), by omega⟩ ?_
  rintro j b0 wl ⟨hj0, hd1, hd2, hB2, hS, hB0, hB1, hE, hwl⟩ hback
  refine X.seq ?_
  refine X.region ?_
  refine X.opP X.wN rfl rfl (X.lss rfl rfl) (fun h12 => ?_) (fun h12 => ?_)
  · have hj : j < n := by omega
    have hvj := hvs j hj
    refine X.opsEnd ?_
    refine X.seq ?_
    refine X.condT rfl ?_
    refine X.skip ?_
    refine X.seq ?_
    refine X.block ?_
    refine X.seq ?_
    refine X.region ?_
    refine X.opw X.wN rfl (X.idxS hS Try.underlying82 Try.sizeOf85 rfl rfl ⟨by omega, by omega⟩) ?_
    refine X.opw X.wN rfl (X.loadS Try.isAgg85 hS hvj rfl (fun _ h => by rw [h.1]; rfl)) ?_
    refine X.opw X.wN rfl (X.assign rfl) ?_
    refine X.opsEnd ?_
    refine X.seq ?_
    refine X.region ?_
    refine X.opw X.wN rfl (X.move rfl) ?_
    refine X.opE X.wN rfl (X.callE (look_c _ (hd2 j (Nat.le_refl _) hj) (by omega) (HS.bH j hj).1 (HS.tH j hj) (fun k hk => by have := HS.bT j hj k hk; omega)) Try.call48 rfl rfl) ?_
    rintro _ w2 ⟨x2, rfl, hH2, hx2⟩
    have hx2' := hx2.size
    refine X.opw X.wN rfl (X.move rfl) ?_
    refine X.opw X.wN rfl (X.extr rfl rfl) ?_
    refine X.opw X.wN rfl (X.extr rfl rfl) ?_
    refine X.opE X.wN rfl (X.allocE Try.zeroValue29 rfl) ?_
    rintro _ w3 ⟨rfl, hB3, hk3, hz3⟩
    refine X.opE X.wN rfl (X.storeNE Try.sizeOf29 hB3 rfl rfl rfl rfl (fun u hu => by simp at hu; rcases hu with rfl | rfl <;> rfl)) ?_
    rintro _ w4 ⟨hB4, hx4, hz4⟩
    refine X.opw X.wN rfl (X.assign (v := .bool _) rfl) ?_
    refine X.opsEnd ?_
    refine X.seq ?_
    refine X.region ?_
    refine X.opw X.wN rfl (X.move (v := .bool _) rfl) ?_
    refine X.opw X.wN rfl (X.move (v := .bool _) rfl) ?_
    refine X.forkO 21 rfl (fun h21 => ?_) (fun h21 => ?_)
    · obtain ⟨ys, hLj⟩ : ∃ ys, L j = x2 :: ys := by
        cases hq : L j with
        | nil => rw [hq] at h21; simp at h21
        | cons y ys => rw [hq] at hH2; exact ⟨ys, by rw [hH2.head]⟩
      refine X.opw (X.wG rfl rfl rfl) rfl (X.move rfl) ?_
      refine X.opB (X.wG rfl rfl rfl) rfl rfl (X.eqPtrN Try.underlying85 rfl rfl) (fun h23 => ?_) (fun h23 => ?_)
      · refine X.opw (X.wG rfl rfl rfl) rfl (X.move (v := .bool true) rfl) ?_
        refine X.opS rfl rfl rfl rfl rfl ?_
        refine X.opS rfl rfl rfl rfl rfl ?_
        refine X.opS rfl rfl rfl rfl rfl ?_
        refine X.opS rfl rfl rfl rfl rfl ?_
        refine X.opS rfl rfl rfl rfl rfl ?_
        refine X.opw (X.wG rfl rfl rfl) rfl (X.pickT (v := .bool true) rfl rfl) ?_
        refine X.opw X.wN rfl (X.pickT (v := .bool true) rfl rfl) ?_
        refine X.opsEnd ?_
        refine X.condT rfl ?_
        refine X.regionD (fun k => k = w.heap.size) 3 (by kernel_rfl) (by kernel_rfl) (fun w5 hk5 hz5 => ?_)
        refine X.dTake 0 rfl (by kernel_rfl) (by kernel_rfl) (by kernel_rfl) (X.dwN rfl) (fun w' hk' => X.move rfl) ?_
        refine X.dTake 1 rfl (by kernel_rfl) (by kernel_rfl) (by kernel_rfl) (X.dwN rfl) (fun w' hk' => X.loadNB Try.isAgg29 Try.sizeOf29 ((hB4.keep hk5).ext hk' (by intros; (try simp only []); omega)) rfl rfl rfl) ?_
        refine X.dTake 2 rfl (by kernel_rfl) (by kernel_rfl) (by kernel_rfl) (X.dwN rfl) (fun w' hk' => X.assign rfl) ?_
        refine X.dE (i := 3) (by kernel_rfl) rfl (X.dwN rfl) (X.storeNE Try.sizeOf29 ((hB2.ext hx2 (fun h => by have := HS.hU _ (⟨j, hj, h⟩); omega)).keep ((hk3.step hx4 (by intros; (try simp only [] at *); omega)).trans hk5)) rfl rfl rfl rfl (fun u hu => by simp at hu; rcases hu with rfl | rfl <;> rfl)) (fun _ _ _ h => absurd h (by decide)) ?_
        rintro _ w6 ⟨hB6, hx6, hz6⟩
        refine X.dStep (i := 4) (by kernel_rfl) rfl (X.dwN rfl) (X.assign rfl) (fun h => absurd h (by decide)) ?_
        refine X.dEnd (by kernel_rfl) ?_
        refine X.inBlock ?_
        refine X.region ?_
        refine X.opw X.wN rfl (X.add rfl rfl (X.w_i64 (by omega))) ?_
        refine X.opw X.wN rfl (X.move (v := .int .i64 _) rfl) ?_
        refine X.opsEnd ?_
        have hpk := pk_new hLj (.inl (by cases hq : pk L j with
            | none => rfl
            | some q => rw [hq] at h23; simp [bestP] at h23))
        refine hback (j + 1) _ _ ⟨(by first | rfl | (rw [hpk]; rfl)), (by first | rfl | (rw [hpk]; rfl)), (by first | rfl | (rw [hpk]; rfl)), (by first | rfl | (rw [hpk]; rfl)), (by first | rfl | (rw [hpk]; rfl)), (by first | rfl | (rw [hpk]; rfl)), (by first | rfl | (rw [hpk]; rfl)), trivial⟩ ⟨by omega, (heads_next HS hBw (by omega) hd1 hd2 hj hH2 hx2 (Ext.andThen (Ext.andThen (Ext.andThen (Ext.andThen (Ext.refl (fun k => w.heap.size ≤ k) _) hk3 (by intro k h1 h2; first | exact (h2 : False).elim | omega | ((try simp only [] at *); omega))) hx4 (by intro k h1 h2; first | exact (h2 : False).elim | omega | ((try simp only [] at *); omega))) hk5 (by intro k h1 h2; first | exact (h2 : False).elim | omega | ((try simp only [] at *); omega))) hx6 (by intro k h1 h2; first | exact (h2 : False).elim | omega | ((try simp only [] at *); omega)))).1, (heads_next HS hBw (by omega) hd1 hd2 hj hH2 hx2 (Ext.andThen (Ext.andThen (Ext.andThen (Ext.andThen (Ext.refl (fun k => w.heap.size ≤ k) _) hk3 (by intro k h1 h2; first | exact (h2 : False).elim | omega | ((try simp only [] at *); omega))) hx4 (by intro k h1 h2; first | exact (h2 : False).elim | omega | ((try simp only [] at *); omega))) hk5 (by intro k h1 h2; first | exact (h2 : False).elim | omega | ((try simp only [] at *); omega))) hx6 (by intro k h1 h2; first | exact (h2 : False).elim | omega | ((try simp only [] at *); omega)))).2, (by rw [hpk]; exact hB6), (((hS.ext hx2 (fun k h1 h2 h => (hsep k (⟨j, hj, h⟩)).1 ⟨h1, h2⟩)).keep ((hk3.step hx4 (by intros; (try simp only [] at *); omega)).trans hk5)).ext hx6 (by intros; (try simp only []); omega)), (((hB0.ext hx2 (fun h => (hsep _ (⟨j, hj, h⟩)).2.1 rfl)).keep ((hk3.step hx4 (by intros; (try simp only [] at *); omega)).trans hk5)).ext hx6 (by intros; (try simp only []); omega)), (((hB1.ext hx2 (fun h => (hsep _ (⟨j, hj, h⟩)).2.2 rfl)).keep ((hk3.step hx4 (by intros; (try simp only [] at *); omega)).trans hk5)).ext hx6 (by intros; (try simp only []); omega)), (Ext.andThen (Ext.andThen (Ext.andThen (Ext.andThen (Ext.andThen hE hx2 (by intro k h1 h2; first | exact (h2 : False).elim | exact ⟨j, hj, h2⟩ | exact ⟨i, hin, .inr h2⟩ | (exfalso; (try simp only [] at *); omega))) hk3 (by intro k h1 h2; first | exact (h2 : False).elim | exact ⟨j, hj, h2⟩ | exact ⟨i, hin, .inr h2⟩ | (exfalso; (try simp only [] at *); omega))) hx4 (by intro k h1 h2; first | exact (h2 : False).elim | exact ⟨j, hj, h2⟩ | exact ⟨i, hin, .inr h2⟩ | (exfalso; (try simp only [] at *); omega))) hk5 (by intro k h1 h2; first | exact (h2 : False).elim | exact ⟨j, hj, h2⟩ | exact ⟨i, hin, .inr h2⟩ | (exfalso; (try simp only [] at *); omega))) hx6 (by intro k h1 h2; first | exact (h2 : False).elim | exact ⟨j, hj, h2⟩ | exact ⟨i, hin, .inr h2⟩ | (exfalso; (try simp only [] at *); omega))), by omega⟩ (by omega)
      · refine X.opw (X.wG rfl rfl rfl) rfl (X.move (v := .bool false) rfl) ?_
        refine X.opw (X.wG rfl rfl rfl) rfl (X.load1B Try.isAgg35 ((hB1.ext hx2 (fun h => (hsep _ (⟨j, hj, h⟩)).2.2 rfl)).keep (hk3.step hx4 (by intros; (try simp only [] at *); omega))) rfl rfl) ?_
        refine X.opw (X.wG rfl rfl rfl) rfl (X.loadNB Try.isAgg29 Try.sizeOf29 hB4 rfl rfl rfl) ?_
        refine X.opw (X.wG rfl rfl rfl) rfl (X.loadNB Try.isAgg29 Try.sizeOf29 ((hB2.ext hx2 (fun h => by have := HS.hU _ (⟨j, hj, h⟩); omega)).keep (hk3.step hx4 (by intros; (try simp only [] at *); omega))) rfl rfl rfl) ?_
        refine X.opE (X.wG rfl rfl rfl) rfl ((hcmp x2 (bestX (pk L j)) _) _ _ _ _ _ _ _ _ _ rfl rfl) ?_
        rintro _ w7 ⟨nc7, rfl, hlt7, hk7⟩
        have hk7' := hk7.size
        refine X.opP (X.wG rfl rfl rfl) rfl rfl (X.lss rfl rfl) (fun h29 => ?_) (fun h29 => ?_)
        · 
          refine X.opw (X.wG rfl rfl rfl) rfl (X.pickF (v := .bool true) rfl rfl) ?_
          refine X.opw X.wN rfl (X.pickT (v := .bool true) rfl rfl) ?_
          refine X.opsEnd ?_
          refine X.condT rfl ?_
          refine X.regionD (fun k => k = w.heap.size) 3 (by kernel_rfl) (by kernel_rfl) (fun w8 hk8 hz8 => ?_)
          refine X.dTake 0 rfl (by kernel_rfl) (by kernel_rfl) (by kernel_rfl) (X.dwN rfl) (fun w' hk' => X.move rfl) ?_
          refine X.dTake 1 rfl (by kernel_rfl) (by kernel_rfl) (by kernel_rfl) (X.dwN rfl) (fun w' hk' => X.loadNB Try.isAgg29 Try.sizeOf29 ((hB4.keep (hk7.trans hk8)).ext hk' (by intros; (try simp only []); omega)) rfl rfl rfl) ?_
          refine X.dTake 2 rfl (by kernel_rfl) (by kernel_rfl) (by kernel_rfl) (X.dwN rfl) (fun w' hk' => X.assign rfl) ?_
          refine X.dE (i := 3) (by kernel_rfl) rfl (X.dwN rfl) (X.storeNE Try.sizeOf29 ((hB2.ext hx2 (fun h => by have := HS.hU _ (⟨j, hj, h⟩); omega)).keep (((hk3.step hx4 (by intros; (try simp only [] at *); omega)).trans hk7).trans hk8)) rfl rfl rfl rfl (fun u hu => by simp at hu; rcases hu with rfl | rfl <;> rfl)) (fun _ _ _ h => absurd h (by decide)) ?_
          rintro _ w9 ⟨hB9, hx9, hz9⟩
          refine X.dStep (i := 4) (by kernel_rfl) rfl (X.dwN rfl) (X.assign rfl) (fun h => absurd h (by decide)) ?_
          refine X.dEnd (by kernel_rfl) ?_
          refine X.inBlock ?_
          refine X.region ?_
          refine X.opw X.wN rfl (X.add rfl rfl (X.w_i64 (by omega))) ?_
          refine X.opw X.wN rfl (X.move (v := .int .i64 _) rfl) ?_
          refine X.opsEnd ?_
          have hpk := pk_new hLj (.inr (hlt7.1 h29))
          refine hback (j + 1) _ _ ⟨(by first | rfl | (rw [hpk]; rfl)), (by first | rfl | (rw [hpk]; rfl)), (by first | rfl | (rw [hpk]; rfl)), (by first | rfl | (rw [hpk]; rfl)), (by first | rfl | (rw [hpk]; rfl)), (by first | rfl | (rw [hpk]; rfl)), (by first | rfl | (rw [hpk]; rfl)), trivial⟩ ⟨by omega, (heads_next HS hBw (by omega) hd1 hd2 hj hH2 hx2 (Ext.andThen (Ext.andThen (Ext.andThen (Ext.andThen (Ext.andThen (Ext.refl (fun k => w.heap.size ≤ k) _) hk3 (by intro k h1 h2; first | exact (h2 : False).elim | omega | ((try simp only [] at *); omega))) hx4 (by intro k h1 h2; first | exact (h2 : False).elim | omega | ((try simp only [] at *); omega))) hk7 (by intro k h1 h2; first | exact (h2 : False).elim | omega | ((try simp only [] at *); omega))) hk8 (by intro k h1 h2; first | exact (h2 : False).elim | omega | ((try simp only [] at *); omega))) hx9 (by intro k h1 h2; first | exact (h2 : False).elim | omega | ((try simp only [] at *); omega)))).1, (heads_next HS hBw (by omega) hd1 hd2 hj hH2 hx2 (Ext.andThen (Ext.andThen (Ext.andThen (Ext.andThen (Ext.andThen (Ext.refl (fun k => w.heap.size ≤ k) _) hk3 (by intro k h1 h2; first | exact (h2 : False).elim | omega | ((try simp only [] at *); omega))) hx4 (by intro k h1 h2; first | exact (h2 : False).elim | omega | ((try simp only [] at *); omega))) hk7 (by intro k h1 h2; first | exact (h2 : False).elim | omega | ((try simp only [] at *); omega))) hk8 (by intro k h1 h2; first | exact (h2 : False).elim | omega | ((try simp only [] at *); omega))) hx9 (by intro k h1 h2; first | exact (h2 : False).elim | omega | ((try simp only [] at *); omega)))).2, (by rw [hpk]; exact hB9), (((hS.ext hx2 (fun k h1 h2 h => (hsep k (⟨j, hj, h⟩)).1 ⟨h1, h2⟩)).keep (((hk3.step hx4 (by intros; (try simp only [] at *); omega)).trans hk7).trans hk8)).ext hx9 (by intros; (try simp only []); omega)), (((hB0.ext hx2 (fun h => (hsep _ (⟨j, hj, h⟩)).2.1 rfl)).keep (((hk3.step hx4 (by intros; (try simp only [] at *); omega)).trans hk7).trans hk8)).ext hx9 (by intros; (try simp only []); omega)), (((hB1.ext hx2 (fun h => (hsep _ (⟨j, hj, h⟩)).2.2 rfl)).keep (((hk3.step hx4 (by intros; (try simp only [] at *); omega)).trans hk7).trans hk8)).ext hx9 (by intros; (try simp only []); omega)), (Ext.andThen (Ext.andThen (Ext.andThen (Ext.andThen (Ext.andThen (Ext.andThen hE hx2 (by intro k h1 h2; first | exact (h2 : False).elim | exact ⟨j, hj, h2⟩ | exact ⟨i, hin, .inr h2⟩ | (exfalso; (try simp only [] at *); omega))) hk3 (by intro k h1 h2; first | exact (h2 : False).elim | exact ⟨j, hj, h2⟩ | exact ⟨i, hin, .inr h2⟩ | (exfalso; (try simp only [] at *); omega))) hx4 (by intro k h1 h2; first | exact (h2 : False).elim | exact ⟨j, hj, h2⟩ | exact ⟨i, hin, .inr h2⟩ | (exfalso; (try simp only [] at *); omega))) hk7 (by intro k h1 h2; first | exact (h2 : False).elim | exact ⟨j, hj, h2⟩ | exact ⟨i, hin, .inr h2⟩ | (exfalso; (try simp only [] at *); omega))) hk8 (by intro k h1 h2; first | exact (h2 : False).elim | exact ⟨j, hj, h2⟩ | exact ⟨i, hin, .inr h2⟩ | (exfalso; (try simp only [] at *); omega))) hx9 (by intro k h1 h2; first | exact (h2 : False).elim | exact ⟨j, hj, h2⟩ | exact ⟨i, hin, .inr h2⟩ | (exfalso; (try simp only [] at *); omega))), by omega⟩ (by omega)
        · 
          refine X.opw (X.wG rfl rfl rfl) rfl (X.pickF (v := .bool false) rfl rfl) ?_
          refine X.opw X.wN rfl (X.pickT (v := .bool false) rfl rfl) ?_
          refine X.opsEnd ?_
          refine X.condF rfl ?_
          refine X.skip ?_
          refine X.inBlock ?_
          refine X.region ?_
          refine X.opw X.wN rfl (X.add rfl rfl (X.w_i64 (by omega))) ?_
          refine X.opw X.wN rfl (X.move (v := .int .i64 _) rfl) ?_
          refine X.opsEnd ?_
          have hpk := pk_old hLj (fun hq => by rw [hq] at h23; simp [bestP] at h23) (fun h => h29 (hlt7.2 h))
          refine hback (j + 1) _ _ ⟨(by first | rfl | (rw [hpk]; rfl)), (by first | rfl | (rw [hpk]; rfl)), (by first | rfl | (rw [hpk]; rfl)), (by first | rfl | (rw [hpk]; rfl)), (by first | rfl | (rw [hpk]; rfl)), (by first | rfl | (rw [hpk]; rfl)), (by first | rfl | (rw [hpk]; rfl)), trivial⟩ ⟨by omega, (heads_next HS hBw (by omega) hd1 hd2 hj hH2 hx2 (Ext.andThen (Ext.andThen (Ext.andThen (Ext.refl (fun k => w.heap.size ≤ k) _) hk3 (by intro k h1 h2; first | exact (h2 : False).elim | omega | ((try simp only [] at *); omega))) hx4 (by intro k h1 h2; first | exact (h2 : False).elim | omega | ((try simp only [] at *); omega))) hk7 (by intro k h1 h2; first | exact (h2 : False).elim | omega | ((try simp only [] at *); omega)))).1, (heads_next HS hBw (by omega) hd1 hd2 hj hH2 hx2 (Ext.andThen (Ext.andThen (Ext.andThen (Ext.refl (fun k => w.heap.size ≤ k) _) hk3 (by intro k h1 h2; first | exact (h2 : False).elim | omega | ((try simp only [] at *); omega))) hx4 (by intro k h1 h2; first | exact (h2 : False).elim | omega | ((try simp only [] at *); omega))) hk7 (by intro k h1 h2; first | exact (h2 : False).elim | omega | ((try simp only [] at *); omega)))).2, (by rw [hpk]; exact ((hB2.ext hx2 (fun h => by have := HS.hU _ (⟨j, hj, h⟩); omega)).keep ((hk3.step hx4 (by intros; (try simp only [] at *); omega)).trans hk7))), ((hS.ext hx2 (fun k h1 h2 h => (hsep k (⟨j, hj, h⟩)).1 ⟨h1, h2⟩)).keep ((hk3.step hx4 (by intros; (try simp only [] at *); omega)).trans hk7)), ((hB0.ext hx2 (fun h => (hsep _ (⟨j, hj, h⟩)).2.1 rfl)).keep ((hk3.step hx4 (by intros; (try simp only [] at *); omega)).trans hk7)), ((hB1.ext hx2 (fun h => (hsep _ (⟨j, hj, h⟩)).2.2 rfl)).keep ((hk3.step hx4 (by intros; (try simp only [] at *); omega)).trans hk7)), (Ext.andThen (Ext.andThen (Ext.andThen (Ext.andThen hE hx2 (by intro k h1 h2; first | exact (h2 : False).elim | exact ⟨j, hj, h2⟩ | exact ⟨i, hin, .inr h2⟩ | (exfalso; (try simp only [] at *); omega))) hk3 (by intro k h1 h2; first | exact (h2 : False).elim | exact ⟨j, hj, h2⟩ | exact ⟨i, hin, .inr h2⟩ | (exfalso; (try simp only [] at *); omega))) hx4 (by intro k h1 h2; first | exact (h2 : False).elim | exact ⟨j, hj, h2⟩ | exact ⟨i, hin, .inr h2⟩ | (exfalso; (try simp only [] at *); omega))) hk7 (by intro k h1 h2; first | exact (h2 : False).elim | exact ⟨j, hj, h2⟩ | exact ⟨i, hin, .inr h2⟩ | (exfalso; (try simp only [] at *); omega))), by omega⟩ (by omega)
    · have hLj : L j = [] := by
        cases hq : L j with
        | nil => rfl
        | cons y ys => rw [hq] at h21; simp at h21
      refine X.opS rfl rfl rfl rfl rfl ?_
      refine X.opS rfl rfl rfl rfl rfl ?_
      refine X.opS rfl rfl rfl rfl rfl ?_
      refine X.opU rfl rfl rfl rfl ?_
      refine X.opU rfl rfl rfl rfl ?_
      refine X.opU rfl rfl rfl rfl ?_
      refine X.opU rfl rfl rfl rfl ?_
      refine X.opU rfl rfl rfl rfl ?_
      refine X.opS rfl rfl rfl rfl rfl ?_
      refine X.opw X.wN rfl (X.pickF (v := .bool false) rfl rfl) ?_
      refine X.opsEnd ?_
      refine X.condF rfl ?_
      refine X.skip ?_
      refine X.inBlock ?_
      refine X.region ?_
      refine X.opw X.wN rfl (X.add rfl rfl (X.w_i64 (by omega))) ?_
      refine X.opw X.wN rfl (X.move (v := .int .i64 _) rfl) ?_
      refine X.opsEnd ?_
      have hpk := pk_nil hLj
      refine hback (j + 1) _ _ ⟨(by first | rfl | (rw [hpk]; rfl)), (by first | rfl | (rw [hpk]; rfl)), (by first | rfl | (rw [hpk]; rfl)), (by first | rfl | (rw [hpk]; rfl)), (by first | rfl | (rw [hpk]; rfl)), (by first | rfl | (rw [hpk]; rfl)), (by first | rfl | (rw [hpk]; rfl)), trivial⟩ ⟨by omega, (heads_next HS hBw (by omega) hd1 hd2 hj hH2 hx2 (Ext.andThen (Ext.andThen (Ext.refl (fun k => w.heap.size ≤ k) _) hk3 (by intro k h1 h2; first | exact (h2 : False).elim | omega | ((try simp only [] at *); omega))) hx4 (by intro k h1 h2; first | exact (h2 : False).elim | omega | ((try simp only [] at *); omega)))).1, (heads_next HS hBw (by omega) hd1 hd2 hj hH2 hx2 (Ext.andThen (Ext.andThen (Ext.refl (fun k => w.heap.size ≤ k) _) hk3 (by intro k h1 h2; first | exact (h2 : False).elim | omega | ((try simp only [] at *); omega))) hx4 (by intro k h1 h2; first | exact (h2 : False).elim | omega | ((try simp only [] at *); omega)))).2, (by rw [hpk]; exact ((hB2.ext hx2 (fun h => by have := HS.hU _ (⟨j, hj, h⟩); omega)).keep (hk3.step hx4 (by intros; (try simp only [] at *); omega)))), ((hS.ext hx2 (fun k h1 h2 h => (hsep k (⟨j, hj, h⟩)).1 ⟨h1, h2⟩)).keep (hk3.step hx4 (by intros; (try simp only [] at *); omega))), ((hB0.ext hx2 (fun h => (hsep _ (⟨j, hj, h⟩)).2.1 rfl)).keep (hk3.step hx4 (by intros; (try simp only [] at *); omega))), ((hB1.ext hx2 (fun h => (hsep _ (⟨j, hj, h⟩)).2.2 rfl)).keep (hk3.step hx4 (by intros; (try simp only [] at *); omega))), (Ext.andThen (Ext.andThen (Ext.andThen hE hx2 (by intro k h1 h2; first | exact (h2 : False).elim | exact ⟨j, hj, h2⟩ | exact ⟨i, hin, .inr h2⟩ | (exfalso; (try simp only [] at *); omega))) hk3 (by intro k h1 h2; first | exact (h2 : False).elim | exact ⟨j, hj, h2⟩ | exact ⟨i, hin, .inr h2⟩ | (exfalso; (try simp only [] at *); omega))) hx4 (by intro k h1 h2; first | exact (h2 : False).elim | exact ⟨j, hj, h2⟩ | exact ⟨i, hin, .inr h2⟩ | (exfalso; (try simp only [] at *); omega))), by omega⟩ (by omega)
  · have hjn : n = j := by omega
    subst hjn
    refine X.opsEnd ?_
    refine X.seq ?_
    refine X.condF rfl ?_
    refine X.exit rfl ?_
    refine X.seq ?_
    refine X.seq ?_
    refine X.region ?_
    refine X.opw X.wN rfl (X.move rfl) ?_
    refine X.opB X.wN rfl rfl (X.nePtrN Try.underlying85 rfl rfl) (fun h36 => ?_) (fun h36 => ?_)
    · obtain ⟨⟨i, x⟩, hpn⟩ : ∃ q, pk L n = some q := by
        cases hq : pk L n with
        | none => rw [hq] at h36; simp [bestP] at h36
        | some q => exact ⟨q, rfl⟩
      obtain ⟨hin, li, hLi⟩ := pk_some hpn
      obtain ⟨x', hHi⟩ := hd1 i hin
      rw [hLi] at hHi
      rw [hpn]
      refine X.opsEnd ?_
      refine X.condT rfl ?_
      refine X.region ?_
      refine X.opw X.wN rfl (X.move rfl) ?_
      refine X.opE X.wN rfl (X.callE (pass_c _ hHi (HS.bH i hin).1 (HS.tH i hin)) Try.call49 rfl rfl) ?_
      rintro _ w10 ⟨rfl, hH10, hx10⟩
      have hx10' := hx10.size
      refine X.opsEnd ?_
      refine X.seq ?_
      refine X.region ?_
      refine X.opw X.wN rfl (X.loadNB Try.isAgg29 Try.sizeOf29 (hB2.ext hx10 (fun h => by have := HS.hU _ (⟨i, hin, .inr h⟩); omega)) rfl rfl rfl) ?_
      refine X.opw X.wN rfl (X.move (v := .bool _) rfl) ?_
      refine X.opE X.wN rfl (X.storeNE Try.sizeOf29 (hB2.ext hx10 (fun h => by have := HS.hU _ (⟨i, hin, .inr h⟩); omega)) rfl rfl rfl rfl (fun u hu => by simp at hu; rcases hu with rfl | rfl <;> rfl)) ?_
      rintro _ w11 ⟨hB11, hx11, hz11⟩
      refine X.opw X.wN rfl (X.assign (v := .bool _) rfl) ?_
      refine X.opsEnd ?_
      refine X.ret_unw (X.unwR2 Try.func47 Try.results47 (X.ResOk.cell rfl (X.lvN Try.isAgg29 Try.sizeOf29 hB11 rfl)) (show X.ResOk _ _ _ (.tmp 3) (.bool _) from rfl) ?_)
      rw [mgC_some hpn, hpn]
      exact ⟨rfl, (Ext.andThen (Ext.andThen hE hx10 (by intro k h1 h2; first | exact (h2 : False).elim | exact ⟨j, hj, h2⟩ | exact ⟨i, hin, .inr h2⟩ | (exfalso; (try simp only [] at *); omega))) hx11 (by intro k h1 h2; first | exact (h2 : False).elim | exact ⟨j, hj, h2⟩ | exact ⟨i, hin, .inr h2⟩ | (exfalso; (try simp only [] at *); omega))), fun _ => ⟨updL L i, rfl, heads_pass HS hBw hd1 hin hLi hH10 hx10 (Ext.andThen (Ext.refl (fun k => w.heap.size ≤ k) _) hx11 (by intro k h1 h2; first | exact (h2 : False).elim | omega | ((try simp only [] at *); omega)))⟩⟩
    · have hpn : pk L n = none := by
        cases hq : pk L n with
        | none => rfl
        | some q => rw [hq] at h36; simp [bestP] at h36
      refine X.opsEnd ?_
      refine X.condF rfl ?_
      refine X.skip ?_
      refine X.seq ?_
      refine X.region ?_
      refine X.opw X.wN rfl (X.loadNB Try.isAgg29 Try.sizeOf29 hB2 rfl rfl rfl) ?_
      refine X.opw X.wN rfl (X.move (v := .bool _) rfl) ?_
      refine X.opE X.wN rfl (X.storeNE Try.sizeOf29 hB2 rfl rfl rfl rfl (fun u hu => by simp at hu; rcases hu with rfl | rfl <;> rfl)) ?_
      rintro _ w12 ⟨hB12, hx12, hz12⟩
      refine X.opw X.wN rfl (X.assign (v := .bool _) rfl) ?_
      refine X.opsEnd ?_
      refine X.ret_unw (X.unwR2 Try.func47 Try.results47 (X.ResOk.cell rfl (X.lvN Try.isAgg29 Try.sizeOf29 hB12 rfl)) (show X.ResOk _ _ _ (.tmp 3) (.bool _) from rfl) ?_)
      rw [mgC_none hpn, hpn]
      exact ⟨rfl, (Ext.andThen hE hx12 (by intro k h1 h2; first | exact (h2 : False).elim | exact ⟨j, hj, h2⟩ | exact ⟨i, hin, .inr h2⟩ | (exfalso; (try simp only [] at *); omega))), fun h => absurd rfl h⟩
end Go.Proofs.Ytgfficbkajcdpaa

namespace Go.Proofs.Ytgfficbkajcdpaa
open Go Go.Proofs.Ytgfficbkajcdpaa.X
set_option linter.unusedVariables false
set_option linter.unusedSimpArgs false
abbrev ptrV (b : Nat) : Value := .pointer (some ⟨b, 0, none⟩)
def IsC (y : Value) : Prop := y = .nilIface ∨ ∃ p, y = .iface 84 p
theorem build_hd (y : Value) (h : IsC y) : Try.prog.built 112 [(0, y)] = some #[y, .int .i8 0, .int .i64 0, .bool false, .bool false] := by
  rcases h with rfl | ⟨p, rfl⟩ <;> kernel_rfl
theorem mem_at {l : List Nat} {i b : Nat} (h : l[i]? = some b) : b ∈ l := List.mem_of_getElem? h
theorem EPh : ElemInfo Try.prog 85 1 8 := ElemInfo.of (z := .pointer none) (by kernel_rfl) rfl rfl rfl
-- f46 "pedigree/merge.heads[pedigree/pedigreeref09.Thing]" params [36] results [82] -> [(ResultVar.tmp 2)] nf
set_option maxHeartbeats 4000000 in
set_option maxRecDepth 100000 in
theorem heads_c {lo hi : Nat} {A : Option Addr} {n c : Nat} {cs : List Value} (w : World) (hs : Sl KR1 lo hi w A n cs) (hn : n ≤ 1000000) (hci : ∀ (i : Nat) y, cs[i]? = some y → IsC y) : Ret Try.prog 46 #[.slice A n c] w fun r w' => ∃ hbs : List Nat, hbs.length = n ∧ Mine KR1 85 (fun k => w.heap.size ≤ k ∧ k ∉ hbs) 0 0 w' r (hbs.map ptrV) ∧ (∀ (i b : Nat), hbs[i]? = some b → ∃ cv, cs[i]? = some cv ∧ Blk w' b (hdL cv (0, 0) false false) 112) ∧ (∀ b, b ∈ hbs → w.heap.size ≤ b ∧ b < w'.heap.size) ∧ hbs.Nodup ∧ Keep w w' := by
  have hl := hs.len
  refine X.enter Try.func46 rfl Try.ntmps46 rfl ?_
  refine X.seq ?_
  refine X.region ?_
  refine X.opw X.wN rfl (X.assign rfl) ?_
  refine X.opsEnd ?_
  refine X.seq ?_
  refine X.region ?_
  refine X.opw X.wN rfl (X.assign rfl) ?_
  refine X.opsEnd ?_
  refine X.seq ?_
  refine X.seq ?_
  refine X.region ?_
  refine X.opw X.wN rfl (X.move (v := .slice _ _ _) rfl) ?_
  refine X.opw X.wN rfl (X.lenSl Try.underlying36 rfl) ?_
  refine X.opw X.wN rfl (X.move rfl) ?_
  refine X.opsEnd ?_
  refine X.block ?_
  -- LOOP live: 3=out*, 6, 7, 8*
  refine X.loopL (σ := Nat × Value × List Nat) (fun s => [(3, s.2.1), (6, .slice A n c), (7, .int .i64 (n : Int)), (8, .int .i64 (s.1 : Int))]) (fun s w' => s.2.2.length = s.1 ∧ s.1 ≤ n ∧ Mine KR1 85 (fun k => w.heap.size ≤ k ∧ k ∉ s.2.2) 0 0 w' s.2.1 (s.2.2.map ptrV) ∧ (∀ (i b : Nat), s.2.2[i]? = some b → ∃ cv, cs[i]? = some cv ∧ Blk w' b (hdL cv (0, 0) false false) 112) ∧ (∀ b, b ∈ s.2.2 → w.heap.size ≤ b ∧ b < w'.heap.size) ∧ s.2.2.Nodup ∧ Keep w w') (fun s => n - s.1) (0, _, []) ⟨rfl, rfl, rfl, rfl, trivial⟩ ⟨rfl, by omega, Mine.nil _ _ _ _ _ _, fun i b h => by simp at h, fun b h => by simp at h, List.nodup_nil, (Keep.refl _)⟩ ?_
  rintro ⟨j, v, hbs⟩ b0 wl ⟨hj, hjn, hM, hbk, hbb, hnd, hk⟩ hback
  dsimp only
  simp only at hj hjn hM hbk hbb hnd
  have hk' := hk.size
  refine X.seq ?_
  refine X.region ?_
  refine X.opP X.wN rfl rfl (X.lss rfl rfl) (fun h9 => ?_) (fun h9 => ?_)
  · obtain ⟨y, hcj⟩ := getN j hl h9
    refine X.opsEnd ?_
    refine X.seq ?_
    refine X.condT rfl ?_
    refine X.skip ?_
    refine X.seq ?_
    refine X.block ?_
    refine X.seq ?_
    refine X.region ?_
    refine X.opw X.wN rfl (X.idxS (hs.keep hk) Try.underlying36 Try.sizeOf33 rfl rfl ⟨by omega, by omega⟩) ?_
    refine X.opw X.wN rfl (X.loadS Try.isAgg33 (hs.keep hk) hcj rfl (fun _ h => by rw [h.1]; rfl)) ?_
    refine X.opw X.wN rfl (X.assign rfl) ?_
    refine X.opsEnd ?_
    refine X.region ?_
    refine X.opw X.wN rfl (X.move rfl) ?_
    refine X.opw X.wN rfl (X.move rfl) ?_
    refine X.opw X.wN rfl (X.buildB (vs := [(0, y)]) (cs := #[y, .int .i8 0, .int .i64 0, .bool false, .bool false]) rfl (build_hd y (hci j y hcj))) ?_
    refine X.opE X.wN rfl (X.boxE rfl rfl) ?_
    rintro _ w1 ⟨rfl, hB1, hk1, hz1⟩
    refine X.opE X.wN rfl (X.litKF KR1_flat (K := KR1) (xs := [Operand.tmp 15]) (vs := [ptrV (wl.heap.size)]) (ys := [ptrV (wl.heap.size)]) Try.underlying82 Try.sizeOf85 Try.zeroValue85 rfl rfl rfl rfl rfl (reps_1 rfl rfl)) ?_
    rintro _ w2 ⟨rfl, hs2, hB2, hk2, hz2⟩
    refine X.opE X.wN rfl (X.appE (K := KR1) (S := fun k => w.heap.size ≤ k ∧ k ∉ hbs ++ [wl.heap.size]) KR1_flat Try.underlying82 EPh rfl rfl ((hM.mono (T := fun k => w.heap.size ≤ k ∧ k ∉ hbs ++ [wl.heap.size]) (fun k hk hs => ⟨hs.1, fun h => (List.mem_append.1 h).elim hs.2 (fun h => by have := List.mem_singleton.1 h; omega)⟩)).keep (hk1.trans hk2)) hs2 (by rw [List.length_map]; (try simp only [List.length_singleton]); omega) (fun k hk => ⟨by omega, fun h => (List.mem_append.1 h).elim (fun h => by have := hbb k h; omega) (fun h => by have := List.mem_singleton.1 h; omega)⟩)) ?_
    rintro v3 w3 ⟨hM3, hx3⟩
    have hx3' := hx3.size
    refine X.opw X.wN rfl (X.assign rfl) ?_
    refine X.opsEnd ?_
    refine X.inBlock ?_
    refine X.region ?_
    refine X.opw X.wN rfl (X.add rfl rfl (X.w_i64 (by omega))) ?_
    refine X.opw X.wN rfl (X.move (v := .int .i64 _) rfl) ?_
    refine X.opsEnd ?_
    have hblk : ∀ (i x : Nat), (hbs ++ [wl.heap.size])[i]? = some x → ∃ cv, cs[i]? = some cv ∧ Blk w3 x (hdL cv (0, 0) false false) 112 := by
      intro i x hix
      by_cases hi : i < hbs.length
      · rw [List.getElem?_append_left hi] at hix
        obtain ⟨cv, h1, h2⟩ := hbk i x hix
        exact ⟨cv, h1, (h2.keep (hk1.trans hk2)).ext hx3 (fun h => h.2 (List.mem_append.2 (.inl (mem_at hix))))⟩
      · rw [List.getElem?_append_right (by omega)] at hix
        have h0 : i - hbs.length = 0 := by
          have := (List.getElem?_eq_some_iff.1 hix).1
          simp at this; omega
        rw [h0] at hix
        simp at hix
        rw [← hix, show i = j by omega]
        exact ⟨_, hcj, ((hB1.keep hk2)).ext hx3 (fun h => h.2 (List.mem_append.2 (.inr (List.mem_singleton.2 rfl))))⟩
    have hbb2 : ∀ x, x ∈ hbs ++ [wl.heap.size] → w.heap.size ≤ x ∧ x < w3.heap.size := by
      intro x hx
      rcases List.mem_append.1 hx with h | h
      · have := hbb x h; omega
      · have := List.mem_singleton.1 h; omega
    have hnd2 : (hbs ++ [wl.heap.size]).Nodup := by
      rw [List.nodup_append]
      refine ⟨hnd, by simp, fun x hx y hy => ?_⟩
      have := hbb x hx
      have := List.mem_singleton.1 hy
      omega
    refine hback (j + 1, _, hbs ++ [wl.heap.size]) _ _ ⟨rfl, rfl, rfl, rfl, trivial⟩ ⟨by dsimp only; rw [List.length_append, hj]; rfl, by dsimp only; omega, by dsimp only; rw [List.map_append]; exact hM3, hblk, hbb2, hnd2, (((hk.trans hk1).trans hk2).step hx3 (by intros; (try simp only [] at *); omega))⟩ (by dsimp only; omega)
  · refine X.opsEnd ?_
    refine X.seq ?_
    refine X.condF rfl ?_
    refine X.exit rfl ?_
    refine X.seq ?_
    refine X.region ?_
    refine X.opw X.wN rfl (X.move rfl) ?_
    refine X.opw X.wN rfl (X.assign rfl) ?_
    refine X.opsEnd ?_
    refine X.ret1 Try.func46 Try.results46 rfl ?_
    exact ⟨hbs, by omega, hM, hbk, hbb, hnd, hk⟩
end Go.Proofs.Ytgfficbkajcdpaa

namespace Go.Proofs.Ytgfficbkajcdpaa
open Go Go.Proofs.Ytgfficbkajcdpaa.X
set_option linter.unusedVariables false
set_option linter.unusedSimpArgs false
theorem Mine.range {α : Type} {K : Kd α} (hF : Flat K) {e m : Nat} {S : Nat → Prop} {w : World} {v : Value} {xs : List α} (h : Mine K e S 0 0 w v xs) (hS : ∀ k, S k → m ≤ k) (hm : m ≤ w.heap.size) : ∃ lo hi A c, (∀ k, lo ≤ k → k < hi → S k) ∧ m ≤ lo ∧ hi ≤ w.heap.size ∧ v = .slice A xs.length c ∧ xs.length ≤ c ∧ Sl K lo hi w A xs.length xs := by
  obtain ⟨b, ho, hb⟩ := h
  cases b with
  | none =>
    obtain ⟨A, c, h3, h4, h5⟩ := (ho.flat hF (lo' := w.heap.size) (hi' := w.heap.size)).sl (fun k hk => by cases hk)
    exact ⟨_, _, A, c, fun k h1 h2 => by omega, hm, Nat.le_refl _, h3, h4, h5⟩
  | some b =>
    have hlt := ho.lt b rfl
    have hSb := hb b rfl
    obtain ⟨A, c, h3, h4, h5⟩ := (ho.flat hF (lo' := b) (hi' := b + 1)).sl (fun k hk => by cases hk; omega)
    exact ⟨_, _, A, c, fun k h1 h2 => by obtain rfl : k = b := by omega
                                         exact hSb, hS b hSb, hlt, h3, h4, h5⟩
theorem nodup_at {l : List Nat} (h : l.Nodup) {i j x : Nat} (hi : l[i]? = some x) (hj : l[j]? = some x) : i = j := by
  obtain ⟨h1, h2⟩ := List.getElem?_eq_some_iff.1 hi
  obtain ⟨h3, h4⟩ := List.getElem?_eq_some_iff.1 hj
  have hp := List.pairwise_iff_getElem.1 h
  rcases Nat.lt_trichotomy i j with h5 | h5 | h5
  · exact absurd (h2.trans h4.symm) (hp i j h1 h3 h5)
  · exact h5
  · exact absurd (h4.trans h2.symm) (hp j i h3 h1 h5)
theorem heads_c2 {lo hi : Nat} {A : Option Addr} {n c : Nat} {cs : List Value} (w : World) (hs : Sl KR1 lo hi w A n cs) (hn : n ≤ 1000000) (hci : ∀ (i : Nat) y, cs[i]? = some y → IsC y) : Ret Try.prog 46 #[.slice A n c] w fun r w' => ∃ (hbs : List Nat) (l h : Nat) (A : Option Addr) (c : Nat), r = .slice A n c ∧ n ≤ c ∧ (∀ k, l ≤ k → k < h → k ∉ hbs) ∧ w.heap.size ≤ l ∧ h ≤ w'.heap.size ∧ hbs.length = n ∧ Sl KR1 l h w' A n (hbs.map ptrV) ∧ (∀ (i b : Nat), hbs[i]? = some b → ∃ cv, cs[i]? = some cv ∧ Blk w' b (hdL cv (0, 0) false false) 112) ∧ (∀ b, b ∈ hbs → w.heap.size ≤ b ∧ b < w'.heap.size) ∧ hbs.Nodup ∧ Keep w w' := by
  refine (heads_c w hs hn hci).mono ?_
  rintro r w' ⟨hbs, h1, h2, h3, h4, h5, h6⟩
  obtain ⟨l, h, A, c, g1, g2, g3, g4, g5, g6⟩ := Mine.range KR1_flat h2 (fun k hk => hk.1) h6.size
  rw [List.length_map, h1] at g4 g5 g6
  exact ⟨hbs, l, h, A, c, g4, g5, fun k a b => (g1 k a b).2, g2, g3, h1, g6, h3, h4, h5, h6⟩
theorem mg_stp {B n a b : Nat} {hb : Nat → Nat} {Tj : Nat → Nat → Prop} {L : Nat → List TH} {c0 c1 : Nat} {cv : Value} {lo hi : Nat} {A : Option Addr} {c : Nat} {vs : List Value} {w : World} (HS : HSet B n hb Tj b) (hBa : B ≤ a) (hn : n ≤ 1000000) (hbw : b ≤ w.heap.size)
    (hTa : ∀ j, j < n → ∀ k, Tj j k → a ≤ k) (hba : ∀ j, j < n → a ≤ hb j) (hlo : a ≤ lo) (hhi : hi ≤ b) (h0 : a ≤ c0 ∧ c0 < b) (h1 : a ≤ c1 ∧ c1 < b)
    (hsl : Sl KR1 lo hi w A n vs) (hvs : ∀ j, j < n → vs[j]? = some (ptrV (hb j))) (hc0 : Blk w c0 [.slice A n c] 82) (hc1 : Blk w c1 [cv] 35) (hsep : ∀ k, UU n hb Tj k → ¬ (lo ≤ k ∧ k < hi) ∧ k ≠ c0 ∧ k ≠ c1) (hd : ∀ j, j < n → Hd B (Tj j) (hb j) (L j) w)
    (hcmp : ∀ (x y : TH) (wa : World), YC Try.prog cv [evT x, evT y] wa fun r wb => ∃ nc, r = .int .i64 nc ∧ (nc < 0 ↔ x.1 < y.1) ∧ Keep wa wb) : Stp Try.prog evT (0, 0) B (fun k => a ≤ k ∧ k < b) (.func (.func 47) #[] #[ptrV c0, ptrV c1]) (mgC n L) w := by
  have hUa : ∀ k, UU n hb Tj k → a ≤ k ∧ k < b := by
    rintro k ⟨j, hj, hk⟩
    refine ⟨?_, (HS.hU k ⟨j, hj, hk⟩).2⟩
    rcases hk with hk | hk
    · exact hTa j hj k hk
    · rw [hk]; exact hba j hj
  refine ⟨fun xs w => ∃ L, xs = mgC n L ∧ b ≤ w.heap.size ∧ Sl KR1 lo hi w A n vs ∧ Blk w c0 [.slice A n c] 82 ∧ Blk w c1 [cv] 35 ∧ ∀ j, j < n → Hd B (Tj j) (hb j) (L j) w, ⟨L, rfl, hbw, hsl, hc0, hc1, hd⟩, ?_, ?_⟩
  · rintro xs w w' ⟨L, g1, g2, g3, g4, g5, g6⟩ ha
    have hz := ha.size
    exact ⟨L, g1, by omega, g3.ext ha (fun k x y z => z.2 ⟨by omega, by omega⟩), ha.blk g4 h0, ha.blk g5 h1, fun j hj => (g6 j hj).ext ha fun k _ hk => ⟨hk.1, fun h => hk.2 (hUa k ⟨j, hj, .inl h⟩), fun h => hk.2 (hUa k ⟨j, hj, .inr h⟩)⟩⟩
  · rintro xs w ⟨L, rfl, g2, g3, g4, g5, g6⟩
    refine YC.of_ret (args := []) (cap := [_, _]) ((Merge1_c B n hb Tj L c0 c1 cv w (HS.mono g2) (by omega) hn g3 (by omega) hvs g4 g5 hsep g6 hcmp).mono ?_) Try.call47
    rintro r w' ⟨rfl, hx, hn'⟩
    have hz := hx.size
    refine ⟨rfl, hx.mono fun k _ hk => hUa k hk, fun hne => ?_⟩
    obtain ⟨L', q1, q2⟩ := hn' hne
    exact ⟨L', q1, by omega, g3.ext hx (fun k x y z => (hsep k z).1 ⟨x, y⟩), g4.ext hx (fun h => (hsep _ h).2.1 rfl), g5.ext hx (fun h => (hsep _ h).2.2 rfl), q2⟩
-- f16 "pedigree/merge.Merge[pedigree/pedigreeref09.Thing]" params [35, 36] results [33] -> [(ResultVar.tmp 4)
set_option maxHeartbeats 4000000 in
set_option maxRecDepth 100000 in
theorem Merge_c {B a n : Nat} {Tj : Nat → Nat → Prop} {L : Nat → List TH} {fn : Fn} {bs ca : Array Value} {lo hi : Nat} {A : Option Addr} {c : Nat} {cs : List Value} (w : World) (hs : Sl KR1 lo hi w A n cs) (hn : n ≤ 1000000) (hBa : B ≤ a) (haw : a ≤ w.heap.size)
    (hT : ∀ j, j < n → ∀ k, Tj j k → a ≤ k ∧ k < w.heap.size) (hdis : ∀ i j, i < n → j < n → i ≠ j → ∀ k, Tj i k → ¬ Tj j k) (hcv : ∀ (j : Nat) y, cs[j]? = some y → CV B (Tj j) y (L j) w)
    (hcmp : ∀ (x y : TH) (wa : World), YC Try.prog (.func fn bs ca) [evT x, evT y] wa fun r wb => ∃ nc, r = .int .i64 nc ∧ (nc < 0 ↔ x.1 < y.1) ∧ Keep wa wb) : Ret Try.prog 16 #[.func fn bs ca, .slice A n c] w fun r w' => (∃ p, r = .iface 84 p) ∧ CV B (fun k => a ≤ k ∧ k < w'.heap.size) r (mgC n L) w' ∧ Keep w w' := by
  have hci : ∀ (i : Nat) y, cs[i]? = some y → IsC y := fun i y h => (hcv i y h).elim (fun h => .inl h.1) (fun ⟨p, h, _⟩ => .inr ⟨p, h⟩)
  refine X.enter Try.func16 rfl Try.ntmps16 rfl ?_
  refine X.seq ?_
  refine X.region ?_
  refine X.opE X.wN rfl (X.boxE rfl rfl) ?_
  rintro _ w1 ⟨rfl, hB1, hk1, hz1⟩
  refine X.opw X.wN rfl (X.assign rfl) ?_
  refine X.opsEnd ?_
  refine X.seq ?_
  refine X.seq ?_
  refine X.region ?_
  refine X.opw X.wN rfl (X.load1B Try.isAgg35 hB1 rfl rfl) ?_
  refine X.opw X.wN rfl (X.eqFn1 Try.underlying35 rfl rfl) ?_
  refine X.opsEnd ?_
  refine X.condF rfl ?_
  refine X.skip ?_
  refine X.seq ?_
  refine X.region ?_
  refine X.opw X.wN rfl (X.move (v := .slice _ _ _) rfl) ?_
  refine X.opE X.wN rfl (X.callE (heads_c2 _ (hs.keep hk1) hn hci) Try.call46 rfl rfl) ?_
  rintro _ w2 ⟨hbs, l, h, Aq, cq, rfl, hcq, hlh, hl, hh, hbl, hsq, hbk, hbb, hnd, hk2⟩
  have hk2' := hk2.size
  refine X.opE X.wN rfl (X.allocE Try.zeroValue82 rfl) ?_
  rintro _ w3 ⟨rfl, hB3, hk3, hz3⟩
  refine X.opE X.wN rfl (X.storeE Try.sizeOf82 hB3 rfl rfl rfl rfl) ?_
  rintro _ w4 ⟨hB4, hx4, hz4⟩
  refine X.opsEnd ?_
  refine X.seq ?_
  refine X.region ?_
  refine X.opw X.wN rfl (X.mkFunc rfl) ?_
  refine X.opw X.wN rfl (X.buildB (vs := [(0, .func (.func 47) #[] #[ptrV (w2.heap.size), ptrV (w.heap.size)])]) (cs := #[.func (.func 47) #[] #[ptrV (w2.heap.size), ptrV (w.heap.size)], .bool false]) rfl (by kernel_rfl)) ?_
  refine X.opE X.wN rfl (X.boxE rfl rfl) ?_
  rintro _ w5 ⟨rfl, hB5, hk5, hz5⟩
  refine X.opw X.wN rfl (X.mkIface Try.underlying84 rfl rfl) ?_
  refine X.opw X.wN rfl (X.assign rfl) ?_
  refine X.opsEnd ?_
  refine X.ret1 Try.func16 Try.results16 rfl ?_
  have hg : ∀ j, j < n → hbs[j]? = some (hbs.getD j 0) := fun j hj => by
    have := List.getElem?_eq_getElem (l := hbs) (i := j) (by omega)
    rw [this, List.getD_eq_getElem?_getD, this]; rfl
  have hgb : ∀ j, j < n → w1.heap.size ≤ hbs.getD j 0 ∧ hbs.getD j 0 < w2.heap.size := fun j hj => hbb _ (mem_at (hg j hj))
  have HS : HSet B n (fun j => hbs.getD j 0) Tj w4.heap.size := by
    refine ⟨fun j hj k hk => by have := hT j hj k hk; omega, fun j hj => by have := hgb j hj; (try simp only []); omega, fun j hj h => by have := hT j hj _ h; have := hgb j hj; (try simp only [] at *); omega, fun i j hi hj hne k h1 h2 => ?_⟩
    have gi := hgb i hi
    have gj := hgb j hj
    try simp only at h1 h2
    rcases h1 with h1 | h1 <;> rcases h2 with h2 | h2
    · exact hdis i j hi hj hne k h1 h2
    · have := hT i hi k h1; omega
    · have := hT j hj k h2; omega
    · exact hne (nodup_at hnd (by rw [hg i hi, ← h1]) (by rw [hg j hj, ← h2]))
  have hsep : ∀ k, UU n (fun j => hbs.getD j 0) Tj k → ¬ (l ≤ k ∧ k < h) ∧ k ≠ w2.heap.size ∧ k ≠ w.heap.size := by
    rintro k ⟨j, hj, h1 | h1⟩
    · have := hT j hj k h1; (try simp only [] at *); exact ⟨by omega, by omega, by omega⟩
    · have h1 : k = hbs.getD j 0 := h1
      have := hgb j hj
      refine ⟨fun hq => hlh k hq.1 hq.2 (by rw [h1]; exact mem_at (hg j hj)), by omega, by omega⟩
  refine ⟨⟨_, rfl⟩, ?_, ((((hk1.trans hk2).trans hk3).step hx4 (by intros; (try simp only [] at *); omega)).trans hk5)⟩
  refine CV.wide (cur_made (a := a) (b := w4.heap.size) (mg_stp (L := L) HS hBa hn (by omega) (fun j hj k hk => (hT j hj k hk).1) (fun j hj => by have := hgb j hj; (try simp only []); omega) (by omega) (by omega) ⟨by omega, by omega⟩ ⟨by omega, by omega⟩ ((hsq.keep ((hk3.step hx4 (by intros; (try simp only [] at *); omega)).trans hk5))) (fun j hj => by rw [List.getElem?_map, hg j hj]; rfl) (hB4.keep hk5) (hB1.keep (((hk2.trans hk3).step hx4 (by intros; (try simp only [] at *); omega)).trans hk5)) hsep (fun j hj => ?_) hcmp) hB5 (by omega) (Nat.le_refl _) (by omega)) (fun k hk => by omega)
  obtain ⟨y, hy1, hy2⟩ := hbk j _ (hg j hj)
  exact .inl ⟨y, (0, 0), ((hy2.keep ((hk3.step hx4 (by intros; (try simp only [] at *); omega)).trans hk5))), (hcv j y hy1).agree (Agree.of_keep ((((hk1.trans hk2).trans hk3).step hx4 (by intros; (try simp only [] at *); omega)).trans hk5))⟩
end Go.Proofs.Ytgfficbkajcdpaa

namespace Go.Proofs.Ytgfficbkajcdpaa
open Go Go.Proofs.Ytgfficbkajcdpaa.X
set_option linter.unusedVariables false
set_option linter.unusedSimpArgs false
theorem eqT_guard : Try.prog.eqGuardType Try.prog.depth 29 = false := by kernel_rfl
theorem eqT (a b : TH) (w : World) : (Op.equalIn 10000 29 (.agg #[.int .i8 a.1, .int .i64 a.2]) (.agg #[.int .i8 b.1, .int .i64 b.2])).run Try.prog w = .ok (decide (a = b)) w := by
  rw [run_equalIn_struct w 9999 _ _ _ (by simp [Program.fieldsOf, Try.underlying29]) (by kernel_rfl)]
  simp only [Program.fieldsOf, Try.underlying29]
  simp [Op.eqFields, part, Try.isAgg27, Try.isAgg3, run_equalIn_int _ 9998 27 .i8 .i8 _ _ Try.underlying27, run_equalIn_int _ 9998 3 .i64 .i64 _ _ Try.underlying3]
  obtain ⟨a1, a2⟩ := a
  obtain ⟨b1, b2⟩ := b
  by_cases h1 : a1 = b1 <;> by_cases h2 : a2 = b2 <;> simp [h1, h2]
-- f17 "pedigree/pedigreeref09.Compare" params [29, 29] results [3] -> [(ResultVar.tmp 4)] nfree 0 ntmps 17 na
set_option maxHeartbeats 4000000 in
set_option maxRecDepth 100000 in
theorem Compare_c (x y : TH) (w : World) : Ret Try.prog 17 #[evT x, evT y] w fun r w' => ∃ nc, r = .int .i64 nc ∧ (nc < 0 ↔ x.1 < y.1) ∧ (0 < nc ↔ y.1 < x.1) ∧ Keep w w' := by
  refine X.enter Try.func17 rfl Try.ntmps17 rfl ?_
  refine X.seq ?_
  refine X.region ?_
  refine X.opE X.wN rfl (X.boxE rfl rfl) ?_
  rintro _ w1 ⟨rfl, hB1, hk1, hz1⟩
  refine X.opE X.wN rfl (X.boxE rfl rfl) ?_
  rintro _ w2 ⟨rfl, hB2, hk2, hz2⟩
  refine X.opw X.wN rfl (X.assign rfl) ?_
  refine X.opsEnd ?_
  refine X.seq ?_
  refine X.block ?_
  refine X.seq ?_
  refine X.region ?_
  refine X.opw X.wN rfl (X.fldB (j := 0) Try.underlying29 rfl rfl Try.sizeOf27 rfl) ?_
  refine X.opw X.wN rfl (X.load1B Try.isAgg27 (hB1.keep hk2) rfl rfl) ?_
  refine X.opw X.wN rfl (X.fldB (j := 0) Try.underlying29 rfl rfl Try.sizeOf27 rfl) ?_
  refine X.opw X.wN rfl (X.load1B Try.isAgg27 hB2 rfl rfl) ?_
  refine X.opP X.wN rfl rfl (X.lss rfl rfl) (fun h10 => ?_) (fun h10 => ?_)
  · refine X.opw X.wN rfl (X.assign (v := .bool true) rfl) ?_
    refine X.opsEnd ?_
    refine X.condT rfl ?_
    refine X.seq ?_
    refine X.region ?_
    refine X.opw X.wN rfl (X.assign rfl) ?_
    refine X.opsEnd ?_
    refine X.ret1 (v := (.int .i64 _)) Try.func17 Try.results17 rfl ?_
    exact ⟨-1, rfl, by omega, by omega, (hk1.trans hk2)⟩
  · refine X.opw X.wN rfl (X.assign (v := .bool false) rfl) ?_
    refine X.opsEnd ?_
    refine X.condF rfl ?_
    refine X.seq ?_
    refine X.region ?_
    refine X.opw X.wN rfl (X.fldB (j := 0) Try.underlying29 rfl rfl Try.sizeOf27 rfl) ?_
    refine X.opw X.wN rfl (X.load1B Try.isAgg27 (hB1.keep hk2) rfl rfl) ?_
    refine X.opw X.wN rfl (X.fldB (j := 0) Try.underlying29 rfl rfl Try.sizeOf27 rfl) ?_
    refine X.opw X.wN rfl (X.load1B Try.isAgg27 hB2 rfl rfl) ?_
    refine X.opP X.wN rfl rfl (X.gtr rfl rfl) (fun h16 => ?_) (fun h16 => ?_)
    · refine X.opw X.wN rfl (X.assign (v := .bool true) rfl) ?_
      refine X.opsEnd ?_
      refine X.condT rfl ?_
      refine X.seq ?_
      refine X.region ?_
      refine X.opw X.wN rfl (X.assign rfl) ?_
      refine X.opsEnd ?_
      refine X.ret1 (v := (.int .i64 _)) Try.func17 Try.results17 rfl ?_
      exact ⟨1, rfl, by omega, by omega, (hk1.trans hk2)⟩
    · refine X.opw X.wN rfl (X.assign (v := .bool false) rfl) ?_
      refine X.opsEnd ?_
      refine X.condF rfl ?_
      refine X.skip ?_
      refine X.inBlock ?_
      refine X.seq ?_
      refine X.region ?_
      refine X.opw X.wN rfl (X.assign rfl) ?_
      refine X.opsEnd ?_
      refine X.ret1 (v := (.int .i64 _)) Try.func17 Try.results17 rfl ?_
      exact ⟨0, rfl, by omega, by omega, (hk1.trans hk2)⟩
theorem cmp17 (x y : TH) (wa : World) : YC Try.prog (.func (.func 17) #[] #[]) [evT x, evT y] wa fun r wb => ∃ nc, r = .int .i64 nc ∧ (nc < 0 ↔ x.1 < y.1) ∧ Keep wa wb :=
  YC.of_ret (args := [_, _]) (cap := []) ((Compare_c x y wa).mono fun r w' ⟨nc, h1, h2, _, h3⟩ => ⟨nc, h1, h2, h3⟩) Try.call17
theorem CV.keep {B : Nat} {T : Nat → Prop} {c : Value} {xs : List TH} {w w' : World} (h : CV B T c xs w) (k : Keep w w') : CV B T c xs w' := h.agree (Agree.of_keep k)
theorem CV.ext {B : Nat} {T U : Nat → Prop} {c : Value} {xs : List TH} {w w' : World} (h : CV B T c xs w) (x : Ext U w w') (hU : ∀ k, k < w.heap.size → U k → B ≤ k ∧ ¬ T k) : CV B T c xs w' := h.agree (Agree.of_ext x hU)
theorem CV.cur {B : Nat} {T : Nat → Prop} {p : Value} {xs : List TH} {w : World} (h : CV B T (.iface 84 p) xs w) : Cur Try.prog evT (0, 0) NX B T p xs w := by
  rcases h with ⟨h, _⟩ | ⟨p', h, h2⟩
  · cases h
  · cases h; exact h2
def L2 (l0 l1 : List TH) : Nat → List TH
  | 0 => l0
  | 1 => l1
  | _ => []
theorem Merge2_c {B a0 b0 a1 b1 lo hi c : Nat} {y0 y1 : Value} {l0 l1 : List TH} {fn : Fn} {bs ca : Array Value} {A : Option Addr} (w : World) (hs : Sl KR1 lo hi w A 2 [y0, y1]) (h0 : CV B (fun k => a0 ≤ k ∧ k < b0) y0 l0 w) (h1 : CV B (fun k => a1 ≤ k ∧ k < b1) y1 l1 w) (hB : B ≤ a0) (hab : a0 ≤ b0) (h01 : b0 ≤ a1) (h1b : a1 ≤ b1) (hb : b1 ≤ w.heap.size)
    (hcmp : ∀ (x y : TH) (wa : World), YC Try.prog (.func fn bs ca) [evT x, evT y] wa fun r wb => ∃ nc, r = .int .i64 nc ∧ (nc < 0 ↔ x.1 < y.1) ∧ Keep wa wb) : Ret Try.prog 16 #[.func fn bs ca, .slice A 2 c] w fun r w' => (∃ p, r = .iface 84 p) ∧ CV B (fun k => a0 ≤ k ∧ k < w'.heap.size) r (mgC 2 (L2 l0 l1)) w' ∧ Keep w w' := by
  refine Merge_c (n := 2) (Tj := fun j k => (j = 0 ∧ a0 ≤ k ∧ k < b0) ∨ (j = 1 ∧ a1 ≤ k ∧ k < b1)) w hs (by omega) hB (by omega) (fun j hj k hk => by omega) (fun i j hi hj hne k h1 h2 => by omega) ?_ hcmp
  intro j y hy
  match j, hy with
  | 0, hy => cases hy; exact h0.wide fun k hk => .inl ⟨rfl, hk⟩
  | 1, hy => cases hy; exact h1.wide fun k hk => .inr ⟨rfl, hk⟩
  | n + 2, hy => simp at hy
theorem get2 {l : List TH} {n : Nat} (i : Nat) (h : l.length = n) (hi : i < n) : ∃ x, l[i]? = some x := ⟨l[i]'(by omega), List.getElem?_eq_getElem (by omega)⟩
theorem thing_step {l l' : List TH} {i : Nat} {x y : TH} (h1 : l[i]? = some x) (h2 : l'[i]? = some y) (h : (!decide (x = y)) = false) (ht : l.take i = l'.take i) : l.take (i + 1) = l'.take (i + 1) := by
  have e : x = y := by simpa using h
  rw [take_at h1, take_at h2, ht, e]
-- f22 "pedigree/pedigreeref09.Same" params [24, 24] results [4] -> [(ResultVar.tmp 4)] nfree 0 ntmps 26 names
set_option maxHeartbeats 4000000 in
set_option maxRecDepth 100000 in
theorem Same_c {lo1 hi1 lo2 hi2 : Nat} {A1 A2 : Option Addr} {n1 n2 c1 c2 : Nat} {l1 l2 : List TH} (w : World) (hs1 : Sl KTh lo1 hi1 w A1 n1 l1) (hs2 : Sl KTh lo2 hi2 w A2 n2 l2) : Ret Try.prog 22 #[.slice A1 n1 c1, .slice A2 n2 c2] w fun r w' => r = .bool (decide (l1 = l2)) ∧ Keep w w' := by
  have hl1 := hs1.len
  have hl2 := hs2.len
  have hbd := hs1.bound
  refine X.enter Try.func22 rfl Try.ntmps22 rfl ?_
  refine X.seq ?_
  refine X.region ?_
  refine X.opw X.wN rfl (X.assign rfl) ?_
  refine X.opsEnd ?_
  refine X.seq ?_
  refine X.seq ?_
  refine X.region ?_
  refine X.opw X.wN rfl (X.move (v := .slice _ _ _) rfl) ?_
  refine X.opw X.wN rfl (X.lenSl Try.underlying24 rfl) ?_
  refine X.opw X.wN rfl (X.move (v := .slice _ _ _) rfl) ?_
  refine X.opw X.wN rfl (X.lenSl Try.underlying24 rfl) ?_
  refine X.opP X.wN rfl rfl (X.neI rfl rfl) (fun h10 => ?_) (fun h10 => ?_)
  · refine X.opsEnd ?_
    refine X.condT rfl ?_
    refine X.seq ?_
    refine X.region ?_
    refine X.opw X.wN rfl (X.assign rfl) ?_
    refine X.opsEnd ?_
    refine X.ret1 (v := (.bool _)) Try.func22 Try.results22 rfl ?_
    exact ⟨by congr 1; exact (decide_eq_false (fun e => h10 (by rw [← hl1, ← hl2, e]))).symm, (Keep.refl _)⟩
  · refine X.opsEnd ?_
    refine X.condF rfl ?_
    refine X.skip ?_
    refine X.seq ?_
    refine X.seq ?_
    refine X.region ?_
    refine X.opw X.wN rfl (X.assign rfl) ?_
    refine X.opsEnd ?_
    refine X.block ?_
    -- LOOP live: 0=a, 1=b, 5=i*
    refine X.loopL (σ := Nat) (fun s => [(0, .slice A1 n1 c1), (1, .slice A2 n2 c2), (5, .int .i64 (s : Int))]) (fun s w' => s ≤ n1 ∧ l1.take s = l2.take s ∧ Keep w w') (fun s => n1 - s) 0 ⟨rfl, rfl, rfl, trivial⟩ ⟨by simp, by simp, (Keep.refl _)⟩ ?_
    rintro i b wl ⟨hi0, ht, hk⟩ hback
    refine X.seq ?_
    refine X.seq ?_
    refine X.region ?_
    refine X.opw X.wN rfl (X.move (v := .int .i64 _) rfl) ?_
    refine X.opw X.wN rfl (X.move (v := .slice _ _ _) rfl) ?_
    refine X.opw X.wN rfl (X.lenSl Try.underlying24 rfl) ?_
    refine X.opP X.wN rfl rfl (X.lss rfl rfl) (fun h14 => ?_) (fun h14 => ?_)
    · obtain ⟨x1, hx1⟩ := get2 i hl1 (by omega)
      obtain ⟨x2, hx2⟩ := get2 i hl2 (by omega)
      refine X.opsEnd ?_
      refine X.condT rfl ?_
      refine X.skip ?_
      refine X.seq ?_
      refine X.block ?_
      refine X.seq ?_
      refine X.regionD (fun _ => False) 9 (by kernel_rfl) (by kernel_rfl) (fun w1 hk1 hz1 => ?_)
      refine X.dTake 0 rfl (by kernel_rfl) (by kernel_rfl) (by kernel_rfl) (X.dwN rfl) (fun w' hk' => X.move (v := .slice _ _ _) rfl) ?_
      refine X.dTake 1 rfl (by kernel_rfl) (by kernel_rfl) (by kernel_rfl) (X.dwN rfl) (fun w' hk' => X.move (v := .int .i64 _) rfl) ?_
      refine X.dTake 2 rfl (by kernel_rfl) (by kernel_rfl) (by kernel_rfl) (X.dwN rfl) (fun w' hk' => X.idxS (hs1.keep ((hk.trans hk1).trans hk')) Try.underlying24 Try.sizeOf29 rfl rfl ⟨by omega, by omega⟩) ?_
      refine X.dTake 3 rfl (by kernel_rfl) (by kernel_rfl) (by kernel_rfl) (X.dwN rfl) (fun w' hk' => X.loadSN Try.isAgg29 Try.sizeOf29 (hs1.keep ((hk.trans hk1).trans hk')) hx1 rfl (fun _ h => h.1) rfl) ?_
      refine X.dTake 4 rfl (by kernel_rfl) (by kernel_rfl) (by kernel_rfl) (X.dwN rfl) (fun w' hk' => X.move (v := .slice _ _ _) rfl) ?_
      refine X.dTake 5 rfl (by kernel_rfl) (by kernel_rfl) (by kernel_rfl) (X.dwN rfl) (fun w' hk' => X.move (v := .int .i64 _) rfl) ?_
      refine X.dTake 6 rfl (by kernel_rfl) (by kernel_rfl) (by kernel_rfl) (X.dwN rfl) (fun w' hk' => X.idxS (hs2.keep ((hk.trans hk1).trans hk')) Try.underlying24 Try.sizeOf29 rfl rfl ⟨by omega, by omega⟩) ?_
      refine X.dTake 7 rfl (by kernel_rfl) (by kernel_rfl) (by kernel_rfl) (X.dwN rfl) (fun w' hk' => X.loadSN Try.isAgg29 Try.sizeOf29 (hs2.keep ((hk.trans hk1).trans hk')) hx2 rfl (fun _ h => h.1) rfl) ?_
      refine X.dTake 8 rfl (by kernel_rfl) (by kernel_rfl) (by kernel_rfl) (X.dwN rfl) (fun w' hk' => X.neA eqT_guard rfl rfl (eqT x1 x2 _)) ?_
      refine X.dEnd (by kernel_rfl) ?_
      refine X.condB rfl (fun hc => ?_) (fun hc => ?_)
      · refine X.seq ?_
        refine X.region ?_
        refine X.opw X.wN rfl (X.assign rfl) ?_
        refine X.opsEnd ?_
        refine X.ret1 (v := (.bool _)) Try.func22 Try.results22 rfl ?_
        refine ⟨by congr 1; refine (decide_eq_false (fun e => ?_)).symm; rw [e, hx2] at hx1; cases hx1; simp at hc, (hk.trans hk1)⟩
      · refine X.skip ?_
        refine X.inBlock ?_
        refine X.region ?_
        refine X.opw X.wN rfl (X.move (v := .int .i64 _) rfl) ?_
        refine X.opw X.wN rfl (X.add rfl rfl (X.w_i64 (by omega))) ?_
        refine X.opw X.wN rfl (X.assign (v := .int .i64 _) rfl) ?_
        refine X.opsEnd ?_
        refine hback (i + 1) _ _ ⟨rfl, rfl, rfl, trivial⟩ ⟨by omega, thing_step hx1 hx2 hc ht, (hk.trans hk1)⟩ (by omega)
    · refine X.opsEnd ?_
      refine X.condF rfl ?_
      refine X.exit rfl ?_
      refine X.seq ?_
      refine X.region ?_
      refine X.opw X.wN rfl (X.assign rfl) ?_
      refine X.opsEnd ?_
      refine X.ret1 (v := (.bool _)) Try.func22 Try.results22 rfl ?_
      refine ⟨by congr 1; refine (decide_eq_true ?_).symm; rw [List.take_of_length_le (by omega), List.take_of_length_le (by omega)] at ht; exact ht, hk⟩
-- f19 "pedigree/pedigreelaw09.short" params [24] results [24] -> [(ResultVar.tmp 2)] nfree 0 ntmps 9 names ["
set_option maxHeartbeats 4000000 in
set_option maxRecDepth 100000 in
theorem short_c {lo hi : Nat} {A : Option Addr} {n c : Nat} {l : List TH} (w : World) (hs : Sl KTh lo hi w A n l) (hnc : n ≤ c) : Ret Try.prog 19 #[.slice A n c] w fun r w' => ∃ m, r = .slice A m c ∧ m ≤ c ∧ m ≤ 30 ∧ Sl KTh lo hi w' A m (l.take 30) ∧ Keep w w' := by
  have hl := hs.len
  refine X.enter Try.func19 rfl Try.ntmps19 rfl ?_
  refine X.seq ?_
  refine X.region ?_
  refine X.opw X.wN rfl (X.assign rfl) ?_
  refine X.opsEnd ?_
  refine X.seq ?_
  refine X.seq ?_
  refine X.region ?_
  refine X.opw X.wN rfl (X.move (v := .slice _ _ _) rfl) ?_
  refine X.opw X.wN rfl (X.lenSl Try.underlying24 rfl) ?_
  refine X.opP X.wN rfl rfl (X.gtr rfl rfl) (fun h5 => ?_) (fun h5 => ?_)
  · refine X.opsEnd ?_
    refine X.condT rfl ?_
    refine X.seq ?_
    refine X.region ?_
    refine X.opw X.wN rfl (X.move (v := .slice _ _ _) rfl) ?_
    refine X.opw X.wN rfl (X.cutHr Try.underlying24 Try.sizeOf29 rfl rfl (by omega)) ?_
    refine X.opw X.wN rfl (X.assign (v := .slice _ _ _) rfl) ?_
    refine X.opsEnd ?_
    refine X.ret1 Try.func19 Try.results19 rfl ?_
    exact ⟨_, rfl, by omega, by omega, (hs.take 30 (by omega)), (Keep.refl _)⟩
  · refine X.opsEnd ?_
    refine X.condF rfl ?_
    refine X.skip ?_
    refine X.seq ?_
    refine X.region ?_
    refine X.opw X.wN rfl (X.move (v := .slice _ _ _) rfl) ?_
    refine X.opw X.wN rfl (X.assign (v := .slice _ _ _) rfl) ?_
    refine X.opsEnd ?_
    refine X.ret1 Try.func19 Try.results19 rfl ?_
    exact ⟨_, rfl, by omega, by omega, by rw [List.take_of_length_le (by omega)]; exact hs, (Keep.refl _)⟩
end Go.Proofs.Ytgfficbkajcdpaa

namespace Go.Proofs.Ytgfficbkajcdpaa
open Go Go.Proofs.Ytgfficbkajcdpaa.X
set_option linter.unusedVariables false
set_option linter.unusedSimpArgs false
theorem repsTs {w : World} : ∀ ys : List TH, RepsV KTh w ys (ys.map evT)
  | [] => trivial
  | y :: ys => ⟨⟨_, rfl, KTh_R 0 0 w y⟩, repsTs ys⟩
-- f14 "pedigree/pedigreelaw09.alive" params [] results [4] -> [(ResultVar.tmp 0)] nfree 0 ntmps 27 names ["",
set_option maxHeartbeats 4000000 in
set_option maxRecDepth 100000 in
theorem alive_c (w : World) : Ret Try.prog 14 #[] w fun r w' => r = .bool true ∧ Keep w w' := by
  refine X.enter Try.func14 rfl Try.ntmps14 rfl ?_
  refine X.seq ?_
  refine X.region ?_
  refine X.opw X.wN rfl (X.assign rfl) ?_
  refine X.opsEnd ?_
  refine X.seq ?_
  refine X.region ?_
  refine X.opw X.wN rfl (X.buildB (vs := [(0, .int .i8 1)]) (cs := #[.int .i8 1, .int .i64 0]) rfl (by kernel_rfl)) ?_
  refine X.opw X.wN rfl (X.buildB (vs := [(0, .int .i8 4), (1, .int .i64 7)]) (cs := #[.int .i8 4, .int .i64 7]) rfl (by kernel_rfl)) ?_
  refine X.opE X.wN rfl (X.litKF KTh_flat (K := KTh) (xs := [Operand.tmp 4, Operand.tmp 5]) (vs := [evT (1, 0), evT (4, 7)]) (ys := [(1, 0), (4, 7)]) Try.underlying24 Try.sizeOf29 Try.zeroValue29 rfl rfl rfl rfl rfl (repsTs [(1, 0), (4, 7)])) ?_
  rintro _ w1 ⟨rfl, hs1, hB1, hk1, hz1⟩
  refine X.opE X.wN rfl (X.callE (Of_c w.heap.size _ hs1 (by omega) (by omega)) Try.call20 rfl rfl) ?_
  rintro _ w2 ⟨bm2, rfl, hC2, hk2⟩
  have hk2' := hk2.size
  refine X.opw X.wN rfl (X.buildB (vs := [(0, .int .i8 2)]) (cs := #[.int .i8 2, .int .i64 0]) rfl (by kernel_rfl)) ?_
  refine X.opw X.wN rfl (X.buildB (vs := [(0, .int .i8 4)]) (cs := #[.int .i8 4, .int .i64 0]) rfl (by kernel_rfl)) ?_
  refine X.opE X.wN rfl (X.litKF KTh_flat (K := KTh) (xs := [Operand.tmp 8, Operand.tmp 9]) (vs := [evT (2, 0), evT (4, 0)]) (ys := [(2, 0), (4, 0)]) Try.underlying24 Try.sizeOf29 Try.zeroValue29 rfl rfl rfl rfl rfl (repsTs [(2, 0), (4, 0)])) ?_
  rintro _ w3 ⟨rfl, hs3, hB3, hk3, hz3⟩
  refine X.opE X.wN rfl (X.callE (Of_c w.heap.size _ hs3 (by omega) (by omega)) Try.call20 rfl rfl) ?_
  rintro _ w4 ⟨bm4, rfl, hC4, hk4⟩
  have hk4' := hk4.size
  refine X.opE X.wN rfl (X.litKF KR1_flat (K := KR1) (xs := [Operand.tmp 7, Operand.tmp 11]) (vs := [.iface 84 (.pointer (some ⟨bm2, 0, none⟩)), .iface 84 (.pointer (some ⟨bm4, 0, none⟩))]) (ys := [.iface 84 (.pointer (some ⟨bm2, 0, none⟩)), .iface 84 (.pointer (some ⟨bm4, 0, none⟩))]) Try.underlying36 Try.sizeOf33 Try.zeroValue33 rfl rfl rfl rfl rfl ⟨⟨_, rfl, rfl, rfl⟩, ⟨_, rfl, rfl, rfl⟩, trivial⟩) ?_
  rintro _ w5 ⟨rfl, hs5, hB5, hk5, hz5⟩
  refine X.opE X.wN rfl (X.callE (Merge2_c _ hs5 (hC2.keep ((hk3.trans hk4).trans hk5)) (hC4.keep hk5) (by omega) (by omega) (by omega) (by omega) (by omega) cmp17) Try.call16 rfl rfl) ?_
  rintro _ w6 ⟨⟨p6, rfl⟩, hC6, hk6⟩
  have hk6' := hk6.size
  refine X.opE X.wN rfl (X.callE (rest_c _ (CV.cur hC6) (by omega) (fun k hk => by (try simp only [] at *); omega) (by decide)) Try.call15 rfl rfl) ?_
  rintro _ w7 ⟨v7, rfl, hM7, hx7⟩
  have hx7' := hx7.size
  refine X.opw X.wN rfl (X.move rfl) ?_
  refine X.opw X.wN rfl (X.extr rfl rfl) ?_
  refine X.opw X.wN rfl (X.extr rfl rfl) ?_
  refine X.opw X.wN rfl (X.assign rfl) ?_
  refine X.opw X.wN rfl (X.assign (v := .bool _) rfl) ?_
  refine X.opsEnd ?_
  refine X.seq ?_
  refine X.region ?_
  refine X.opw X.wN rfl (X.move (v := .bool true) rfl) ?_
  refine X.opw X.wN rfl (X.move (v := .bool true) rfl) ?_
  refine X.opw (X.wG rfl rfl rfl) rfl (X.move rfl) ?_
  refine X.opw (X.wG rfl rfl rfl) rfl (X.buildB (vs := [(0, .int .i8 1)]) (cs := #[.int .i8 1, .int .i64 0]) rfl (by kernel_rfl)) ?_
  refine X.opw (X.wG rfl rfl rfl) rfl (X.buildB (vs := [(0, .int .i8 2)]) (cs := #[.int .i8 2, .int .i64 0]) rfl (by kernel_rfl)) ?_
  refine X.opw (X.wG rfl rfl rfl) rfl (X.buildB (vs := [(0, .int .i8 4), (1, .int .i64 7)]) (cs := #[.int .i8 4, .int .i64 7]) rfl (by kernel_rfl)) ?_
  refine X.opw (X.wG rfl rfl rfl) rfl (X.buildB (vs := [(0, .int .i8 4)]) (cs := #[.int .i8 4, .int .i64 0]) rfl (by kernel_rfl)) ?_
  refine X.opE (X.wG rfl rfl rfl) rfl (X.litKF KTh_flat (K := KTh) (xs := [Operand.tmp 20, Operand.tmp 21, Operand.tmp 22, Operand.tmp 23]) (vs := [evT (1, 0), evT (2, 0), evT (4, 7), evT (4, 0)]) (ys := [(1, 0), (2, 0), (4, 7), (4, 0)]) Try.underlying24 Try.sizeOf29 Try.zeroValue29 rfl rfl rfl rfl rfl (repsTs [(1, 0), (2, 0), (4, 7), (4, 0)])) ?_
  rintro _ w8 ⟨rfl, hs8, hB8, hk8, hz8⟩
  have q10 := (hM7.keep hk8).slF KTh_flat 0 (fun _ _ => Nat.zero_le _)
  obtain ⟨A10, c10, rfl, hc10, hs10⟩ := q10
  refine X.opE (X.wG rfl rfl rfl) rfl (X.callE (Same_c _ hs10 hs8) Try.call22 rfl rfl) ?_
  rintro _ w9 ⟨rfl, hk9⟩
  have hk9' := hk9.size
  refine X.opw X.wN rfl (X.pickT (v := .bool _) rfl rfl) ?_
  refine X.opw X.wN rfl (X.assign (v := .bool _) rfl) ?_
  refine X.opsEnd ?_
  refine X.ret1 (v := (.bool _)) Try.func14 Try.results14 rfl ?_
  exact ⟨congrArg Value.bool (decide_eq_true (by decide)), ((((((((hk1.trans hk2).trans hk3).trans hk4).trans hk5).trans hk6).step hx7 (by intros; (try simp only [] at *); omega)).trans hk8).trans hk9)⟩
end Go.Proofs.Ytgfficbkajcdpaa

namespace Go.Proofs.Ytgfficbkajcdpaa
open Go Go.Proofs.Ytgfficbkajcdpaa.X
set_option linter.unusedVariables false
set_option linter.unusedSimpArgs false
def skipT (x : TH) (ys : List TH) : List TH := ys.dropWhile fun y => decide (y.1 < x.1)
def hasT (x : TH) (ys : List TH) : Bool := match skipT x ys with
  | [] => false
  | y :: _ => decide (y.1 = x.1)
theorem skip_go {x y : TH} {l : List TH} (h : y.1 < x.1) : skipT x (y :: l) = skipT x l ∧ hasT x (y :: l) = hasT x l := by
  have : skipT x (y :: l) = skipT x l := by simp [skipT, h]
  exact ⟨this, by rw [hasT, hasT, this]⟩
theorem skip_stop {x y : TH} {l : List TH} (h : ¬ y.1 < x.1) : skipT x (y :: l) = y :: l ∧ hasT x (y :: l) = decide (y.1 = x.1) := by
  have : skipT x (y :: l) = y :: l := by simp [skipT, h]
  exact ⟨this, by rw [hasT, this]⟩
/-- The xs that ys has (or has not), both rising. -/
def heldL (t : Bool) : List TH → List TH → List TH
  | [], _ => []
  | x :: xs, ys => if hasT x ys = t then x :: heldL t xs (skipT x ys) else heldL t xs (skipT x ys)
def CmpOk (cv : Value) : Prop := ∀ (x y : TH) (wa : World), YC Try.prog cv [evT x, evT y] wa fun r wb => ∃ nc, r = .int .i64 nc ∧ (nc < 0 ↔ x.1 < y.1) ∧ (0 < nc ↔ y.1 < x.1) ∧ Keep wa wb
theorem cmpOk17 : CmpOk (.func (.func 17) #[] #[]) := fun x y wa => YC.of_ret (args := [_, _]) (cap := []) (Compare_c x y wa) Try.call17
-- f66 "pedigree/merge.held[pedigree/pedigreeref09.Thing]$1" params [29] results [4] -> [(ResultVar.tmp 4)] nf
set_option maxHeartbeats 4000000 in
set_option maxRecDepth 100000 in
theorem has_c (x : TH) {B hb c9 c4 : Nat} {Tt : Nat → Prop} {ys : List TH} {cv : Value} (w : World) (h9 : Blk w c9 [ptrV hb] 85) (h4 : Blk w c4 [cv] 35) (hd : Hd B Tt hb ys w) (hBs : B ≤ w.heap.size) (hBh : B ≤ hb) (hbl : hb < w.heap.size) (hTh : ¬ Tt hb) (hTb : ∀ k, Tt k → k < w.heap.size) (hsep : ∀ k, (Tt k ∨ k = hb) → k ≠ c9 ∧ k ≠ c4) (hcmp : CmpOk cv) :
    Ret Try.prog 66 #[evT x, .pointer (some ⟨c9, 0, none⟩), .pointer (some ⟨c4, 0, none⟩)] w fun r w' => r = .bool (hasT x ys) ∧ Hd B Tt hb (skipT x ys) w' ∧ Ext (fun k => Tt k ∨ k = hb) w w' := by
  have h9l := h9.lt
  have h4l := h4.lt
  refine X.enter Try.func66 rfl Try.ntmps66 rfl ?_
  refine X.seq ?_
  refine X.region ?_
  refine X.opE X.wN rfl (X.boxE rfl rfl) ?_
  rintro _ w1 ⟨rfl, hB1, hk1, hz1⟩
  refine X.opw X.wN rfl (X.assign rfl) ?_
  refine X.opsEnd ?_
  refine X.block ?_
  -- LOOP live: 1, 2, 3=x
  refine X.loopL (σ := List TH) (fun s => [(1, .pointer (some ⟨c9, 0, none⟩)), (2, .pointer (some ⟨c4, 0, none⟩)), (3, .pointer (some ⟨w.heap.size, 0, none⟩))]) (fun s w' => skipT x s = skipT x ys ∧ hasT x s = hasT x ys ∧ Blk w' c9 [ptrV hb] 85 ∧ Blk w' c4 [cv] 35 ∧ Blk w' w.heap.size [.int .i8 x.1, .int .i64 x.2] 29 ∧ Hd B Tt hb s w' ∧ Ext (fun k => Tt k ∨ k = hb) w w' ∧ w.heap.size < w'.heap.size) (fun s => s.length) ys ⟨rfl, rfl, rfl, trivial⟩ ⟨rfl, rfl, (h9.keep hk1), (h4.keep hk1), hB1, hd.ext hk1 (fun _ _ h => h.elim), hk1.mono (fun _ _ h => h.elim), by omega⟩ ?_
  rintro l b0 wl ⟨hs1, hs2, hBp, hBq, hBr, hHd, hE, hwl⟩ hback
  refine X.block ?_
  refine X.seq ?_
  refine X.region ?_
  refine X.opw X.wN rfl (X.load1B Try.isAgg85 hBp rfl rfl) ?_
  refine X.opE X.wN rfl (X.callE (look_c _ hHd (by omega) hBh hTh (fun k hk => by have := hTb k hk; omega)) Try.call48 rfl rfl) ?_
  rintro _ w2 ⟨y2, rfl, hH2, hx2⟩
  have hx2' := hx2.size
  refine X.opw X.wN rfl (X.move rfl) ?_
  refine X.opw X.wN rfl (X.extr rfl rfl) ?_
  refine X.opw X.wN rfl (X.extr rfl rfl) ?_
  refine X.opE X.wN rfl (X.allocE Try.zeroValue29 rfl) ?_
  rintro _ w3 ⟨rfl, hB3, hk3, hz3⟩
  refine X.opE X.wN rfl (X.storeNE Try.sizeOf29 hB3 rfl rfl rfl rfl (fun u hu => by simp at hu; rcases hu with rfl | rfl <;> rfl)) ?_
  rintro _ w4 ⟨hB4, hx4, hz4⟩
  refine X.opw X.wN rfl (X.assign (v := .bool _) rfl) ?_
  refine X.opsEnd ?_
  refine X.seq ?_
  refine X.seq ?_
  refine X.region ?_
  refine X.opw X.wN rfl (X.move (v := .bool _) rfl) ?_
  refine X.opw X.wN rfl (X.not_ rfl) ?_
  refine X.opsEnd ?_
  refine X.condB rfl (fun hc => ?_) (fun hc => ?_)
  · obtain rfl : l = [] := by simpa using hc
    refine X.seq ?_
    refine X.region ?_
    refine X.opw X.wN rfl (X.assign rfl) ?_
    refine X.opsEnd ?_
    refine X.ret1 (v := (.bool _)) Try.func66 Try.results66 rfl ?_
    rw [← hs1, ← hs2]
    exact ⟨rfl, .inr ⟨_, hH2.ext (Ext.andThen (Ext.andThen (Ext.refl (fun k => w.heap.size ≤ k) _) hk3 (by intro k h1 h2; first | exact (h2 : False).elim | omega | ((try simp only [] at *); omega))) hx4 (by intro k h1 h2; first | exact (h2 : False).elim | omega | ((try simp only [] at *); omega))) (fun k hk h => ⟨by omega, fun ht => by have := hTb k ht; omega, by omega⟩)⟩, (Ext.andThen (Ext.andThen (Ext.andThen hE hx2 (by intro k h1 h2; first | exact h2 | exact .inr h2 | exact (h2 : False).elim | (exfalso; (try simp only [] at *); omega))) hk3 (by intro k h1 h2; first | exact h2 | exact .inr h2 | exact (h2 : False).elim | (exfalso; (try simp only [] at *); omega))) hx4 (by intro k h1 h2; first | exact h2 | exact .inr h2 | exact (h2 : False).elim | (exfalso; (try simp only [] at *); omega)))⟩
  · obtain ⟨ys', rfl⟩ : ∃ ys', l = y2 :: ys' := by
      cases l with
      | nil => simp at hc
      | cons z l => exact ⟨l, by rw [hH2.head]⟩
    have hHy := hH2
    refine X.skip ?_
    refine X.seq ?_
    refine X.region ?_
    refine X.opw X.wN rfl (X.load1B Try.isAgg35 ((hBq.ext hx2 (fun h => (hsep _ h).2 rfl)).keep (hk3.step hx4 (by intros; (try simp only [] at *); omega))) rfl rfl) ?_
    refine X.opw X.wN rfl (X.loadNB Try.isAgg29 Try.sizeOf29 hB4 rfl rfl rfl) ?_
    refine X.opw X.wN rfl (X.loadNB Try.isAgg29 Try.sizeOf29 ((hBr.ext hx2 (by intro h; exact Or.elim h (fun h => by have := hTb _ h; omega) (fun h => by omega))).keep (hk3.step hx4 (by intros; (try simp only [] at *); omega))) rfl rfl rfl) ?_
    refine X.opE X.wN rfl ((hcmp _ x _) _ _ _ _ _ _ _ _ _ rfl rfl) ?_
    rintro _ w5 ⟨nc5, rfl, hlt5, hgt5, hk5⟩
    have hk5' := hk5.size
    refine X.opw X.wN rfl (X.assign (v := .int .i64 _) rfl) ?_
    refine X.opsEnd ?_
    refine X.seq ?_
    refine X.seq ?_
    refine X.region ?_
    refine X.opw X.wN rfl (X.move (v := .int .i64 _) rfl) ?_
    refine X.opP X.wN rfl rfl (X.geq rfl rfl) (fun h20 => ?_) (fun h20 => ?_)
    · have hyx : ¬ y2.1 < x.1 := fun h => by have := hlt5.2 h; omega
      refine X.opsEnd ?_
      refine X.condT rfl ?_
      refine X.seq ?_
      refine X.region ?_
      refine X.opw X.wN rfl (X.move (v := .int .i64 _) rfl) ?_
      refine X.opw X.wN rfl (X.eqI rfl rfl) ?_
      refine X.opw X.wN rfl (X.assign (v := .bool _) rfl) ?_
      refine X.opsEnd ?_
      refine X.ret1 (v := (.bool _)) Try.func66 Try.results66 rfl ?_
      rw [← hs1, ← hs2, (skip_stop hyx).1, (skip_stop hyx).2]
      exact ⟨congrArg Value.bool (decide_eq_decide.2 ⟨fun h => by have := mt hgt5.2 (by omega); omega, fun h => by have := mt hlt5.1 (by omega); have := mt hgt5.1 (by omega); omega⟩), .inr ⟨_, hHy.ext (Ext.andThen (Ext.andThen (Ext.andThen (Ext.refl (fun k => w.heap.size ≤ k) _) hk3 (by intro k h1 h2; first | exact (h2 : False).elim | omega | ((try simp only [] at *); omega))) hx4 (by intro k h1 h2; first | exact (h2 : False).elim | omega | ((try simp only [] at *); omega))) hk5 (by intro k h1 h2; first | exact (h2 : False).elim | omega | ((try simp only [] at *); omega))) (fun k hk h => ⟨by omega, fun ht => by have := hTb k ht; omega, by omega⟩)⟩, (Ext.andThen (Ext.andThen (Ext.andThen (Ext.andThen hE hx2 (by intro k h1 h2; first | exact h2 | exact .inr h2 | exact (h2 : False).elim | (exfalso; (try simp only [] at *); omega))) hk3 (by intro k h1 h2; first | exact h2 | exact .inr h2 | exact (h2 : False).elim | (exfalso; (try simp only [] at *); omega))) hx4 (by intro k h1 h2; first | exact h2 | exact .inr h2 | exact (h2 : False).elim | (exfalso; (try simp only [] at *); omega))) hk5 (by intro k h1 h2; first | exact h2 | exact .inr h2 | exact (h2 : False).elim | (exfalso; (try simp only [] at *); omega)))⟩
    · have hyx : y2.1 < x.1 := hlt5.1 (by omega)
      refine X.opsEnd ?_
      refine X.condF rfl ?_
      refine X.skip ?_
      refine X.region ?_
      refine X.opw X.wN rfl (X.load1B Try.isAgg85 ((hBp.ext hx2 (fun h => (hsep _ h).1 rfl)).keep ((hk3.step hx4 (by intros; (try simp only [] at *); omega)).trans hk5)) rfl rfl) ?_
      refine X.opE X.wN rfl (X.callE (pass_c _ (hHy.ext (Ext.andThen (Ext.andThen (Ext.andThen (Ext.refl (fun k => w.heap.size ≤ k) _) hk3 (by intro k h1 h2; first | exact (h2 : False).elim | omega | ((try simp only [] at *); omega))) hx4 (by intro k h1 h2; first | exact (h2 : False).elim | omega | ((try simp only [] at *); omega))) hk5 (by intro k h1 h2; first | exact (h2 : False).elim | omega | ((try simp only [] at *); omega))) (fun k hk h => ⟨by omega, fun ht => by have := hTb k ht; omega, by omega⟩)) hBh hTh) Try.call49 rfl rfl) ?_
      rintro _ w6 ⟨rfl, hH6, hx6⟩
      have hx6' := hx6.size
      refine X.opsEnd ?_
      refine X.inBlock ?_
      refine hback ys' _ _ ⟨rfl, rfl, rfl, trivial⟩ ⟨(skip_go hyx).1.symm.trans hs1, (skip_go hyx).2.symm.trans hs2, (((hBp.ext hx2 (fun h => (hsep _ h).1 rfl)).keep ((hk3.step hx4 (by intros; (try simp only [] at *); omega)).trans hk5)).ext hx6 (fun h => (hsep _ (.inr h)).1 rfl)), (((hBq.ext hx2 (fun h => (hsep _ h).2 rfl)).keep ((hk3.step hx4 (by intros; (try simp only [] at *); omega)).trans hk5)).ext hx6 (fun h => (hsep _ (.inr h)).2 rfl)), (((hBr.ext hx2 (by intro h; exact Or.elim h (fun h => by have := hTb _ h; omega) (fun h => by omega))).keep ((hk3.step hx4 (by intros; (try simp only [] at *); omega)).trans hk5)).ext hx6 (by intro h; have h : _ = hb := h; omega)), hH6, (Ext.andThen (Ext.andThen (Ext.andThen (Ext.andThen (Ext.andThen hE hx2 (by intro k h1 h2; first | exact h2 | exact .inr h2 | exact (h2 : False).elim | (exfalso; (try simp only [] at *); omega))) hk3 (by intro k h1 h2; first | exact h2 | exact .inr h2 | exact (h2 : False).elim | (exfalso; (try simp only [] at *); omega))) hx4 (by intro k h1 h2; first | exact h2 | exact .inr h2 | exact (h2 : False).elim | (exfalso; (try simp only [] at *); omega))) hk5 (by intro k h1 h2; first | exact h2 | exact .inr h2 | exact (h2 : False).elim | (exfalso; (try simp only [] at *); omega))) hx6 (by intro k h1 h2; first | exact h2 | exact .inr h2 | exact (h2 : False).elim | (exfalso; (try simp only [] at *); omega))), by omega⟩ (by simp)
end Go.Proofs.Ytgfficbkajcdpaa

namespace Go.Proofs.Ytgfficbkajcdpaa
open Go Go.Proofs.Ytgfficbkajcdpaa.X
set_option linter.unusedVariables false
set_option linter.unusedSimpArgs false
theorem Hd.keep {B : Nat} {T : Nat → Prop} {hb : Nat} {ys : List TH} {w w' : World} (h : Hd B T hb ys w) (k : Keep w w') : Hd B T hb ys w' := h.ext k fun _ _ h => h.elim
theorem heldL_no {t : Bool} {x : TH} {xs ys : List TH} (h : ¬ hasT x ys = t) : heldL t (x :: xs) ys = heldL t xs (skipT x ys) := by rw [heldL, if_neg h]
theorem heldL_yes {t : Bool} {x : TH} {xs ys : List TH} (h : hasT x ys = t) : heldL t (x :: xs) ys = x :: heldL t xs (skipT x ys) := by rw [heldL, if_pos h]
-- f67 "pedigree/merge.held[pedigree/pedigreeref09.Thing]$2" params [] results [29, 4] -> [(ResultVar.cell 3 2
set_option maxHeartbeats 4000000 in
set_option maxRecDepth 100000 in
theorem held2_c (t : Bool) {B hb c5 c10 c7 c9 c4 : Nat} {Ta Tb : Nat → Prop} {xs0 ys0 : List TH} {cv p : Value} (w : World) (hbl : Blk w c5 [.iface 84 p] 33 ∧ Blk w c10 [(.func (.func 66) #[] #[ptrV c9, ptrV c4])] 46 ∧ Blk w c7 [.bool t] 4 ∧ Blk w c9 [ptrV hb] 85 ∧ Blk w c4 [cv] 35) (hCa : Cur Try.prog evT (0, 0) NX B Ta p xs0 w) (hd : Hd B Tb hb ys0 w) (hBs : B ≤ w.heap.size) (hBh : B ≤ hb) (hTh : ¬ Tb hb) (hTa : ∀ k, Ta k → k < w.heap.size) (hTb : ∀ k, Tb k → k < w.heap.size)
    (hsepA : ∀ k, Ta k → k ≠ c5 ∧ k ≠ c10 ∧ k ≠ c7 ∧ k ≠ c9 ∧ k ≠ c4 ∧ k < w.heap.size) (hsepB : ∀ k, (Tb k ∨ k = hb) → k ≠ c5 ∧ k ≠ c10 ∧ k ≠ c7 ∧ k ≠ c9 ∧ k ≠ c4 ∧ k < w.heap.size) (hdA : ∀ k, Ta k → B ≤ k ∧ ¬ Tb k ∧ k ≠ hb) (hdB : ∀ k, (Tb k ∨ k = hb) → B ≤ k ∧ ¬ Ta k) (hcmp : CmpOk cv) :
    Ret Try.prog 67 #[.pointer (some ⟨c5, 0, none⟩), .pointer (some ⟨c10, 0, none⟩), .pointer (some ⟨c7, 0, none⟩)] w fun r w' => r = hdV evT (0, 0) (heldL t xs0 ys0) ∧ Ext (fun k => Ta k ∨ Tb k ∨ k = hb) w w' ∧ (heldL t xs0 ys0 ≠ [] → ∃ xs ys, (heldL t xs0 ys0).tail = heldL t xs ys ∧ Cur Try.prog evT (0, 0) NX B Ta p xs w' ∧ Hd B Tb hb ys w') := by
  obtain ⟨h5, h10, h7, h9, h4⟩ := hbl
  have h5l := h5.lt
  have h10l := h10.lt
  have h7l := h7.lt
  have h9l := h9.lt
  have h4l := h4.lt
  have hbl := (hsepB hb (.inr rfl)).2.2.2.2.2
  refine X.enter Try.func67 rfl Try.ntmps67 rfl ?_
  refine X.seq ?_
  refine X.region ?_
  refine X.opE X.wN rfl (X.allocE Try.zeroValue29 rfl) ?_
  rintro _ w1 ⟨rfl, hB1, hk1, hz1⟩
  refine X.opw X.wN rfl (X.assign rfl) ?_
  refine X.opsEnd ?_
  refine X.block ?_
  -- LOOP live: 0, 1, 2, 3=x
  refine X.loopL (σ := TH × List TH × List TH) (fun s => [(0, .pointer (some ⟨c5, 0, none⟩)), (1, .pointer (some ⟨c10, 0, none⟩)), (2, .pointer (some ⟨c7, 0, none⟩)), (3, .pointer (some ⟨w.heap.size, 0, none⟩))]) (fun s w' => heldL t s.2.1 s.2.2 = heldL t xs0 ys0 ∧ (Blk w' c5 [.iface 84 p] 33 ∧ Blk w' c10 [(.func (.func 66) #[] #[ptrV c9, ptrV c4])] 46 ∧ Blk w' c7 [.bool t] 4 ∧ Blk w' c9 [ptrV hb] 85 ∧ Blk w' c4 [cv] 35) ∧ Blk w' w.heap.size [.int .i8 s.1.1, .int .i64 s.1.2] 29 ∧ Cur Try.prog evT (0, 0) NX B Ta p s.2.1 w' ∧ Hd B Tb hb s.2.2 w' ∧ Ext (fun k => Ta k ∨ Tb k ∨ k = hb) w w' ∧ w.heap.size < w'.heap.size) (fun s => s.2.1.length) ((0, 0), xs0, ys0) ⟨rfl, rfl, rfl, rfl, trivial⟩ ⟨rfl, ⟨(h5.keep hk1), (h10.keep hk1), (h7.keep hk1), (h9.keep hk1), (h4.keep hk1)⟩, hB1, hCa.keep hk1, hd.ext hk1 (fun _ _ h => h.elim), hk1.mono (fun _ _ h => h.elim), by omega⟩ ?_
  rintro ⟨z, xs, ys⟩ b0 wl ⟨hhl, ⟨hBa, hBb, hBc, hBd, hBe⟩, hBz, hC, hHd, hE, hwl⟩ hback
  dsimp only
  simp only at hhl hBz hC hHd
  refine X.block ?_
  refine X.seq ?_
  refine X.region ?_
  refine X.opw X.wN rfl (X.load1B Try.isAgg33 hBa rfl rfl) ?_
  refine X.opE X.wN rfl (X.invokeE rfl (next_m _) hC.next Try.call98) ?_
  rintro _ w2 ⟨rfl, hx2, hC2⟩
  have hx2' := hx2.size
  refine X.opw X.wN rfl (X.move rfl) ?_
  refine X.opw X.wN rfl (X.extr rfl rfl) ?_
  refine X.opw X.wN rfl (X.extr rfl rfl) ?_
  refine X.opE X.wN rfl (X.storeNE Try.sizeOf29 (hBz.ext hx2 (by intro h; have := hsepA _ h; omega)) rfl rfl rfl rfl (fun u hu => by simp at hu; rcases hu with rfl | rfl <;> rfl)) ?_
  rintro _ w3 ⟨hB3, hx3, hz3⟩
  refine X.opw X.wN rfl (X.assign (v := .bool _) rfl) ?_
  refine X.opsEnd ?_
  refine X.seq ?_
  refine X.regionD (fun k => Tb k ∨ k = hb) 9 (by kernel_rfl) (by kernel_rfl) (fun w4 hk4 hz4 => ?_)
  refine X.dTake 0 rfl (by kernel_rfl) (by kernel_rfl) (by kernel_rfl) (X.dwN rfl) (fun w' hk' => X.move (v := .bool _) rfl) ?_
  refine X.dTake 1 rfl (by kernel_rfl) (by kernel_rfl) (by kernel_rfl) (X.dwN rfl) (fun w' hk' => X.not_ rfl) ?_
  refine X.dTake 2 rfl (by kernel_rfl) (by kernel_rfl) (by kernel_rfl) (X.dwN rfl) (fun w' hk' => X.move (v := .bool _) rfl) ?_
  refine X.dFork 12 rfl (fun h12 => ?_) (fun h12 => ?_)
  · obtain rfl : xs = [] := by simpa using h12
    refine X.dTakeS 3 rfl (by kernel_rfl) (by kernel_rfl) (by kernel_rfl) rfl rfl rfl rfl ?_
    refine X.dTakeS 4 rfl (by kernel_rfl) (by kernel_rfl) (by kernel_rfl) rfl rfl rfl rfl ?_
    refine X.dTakeS 5 rfl (by kernel_rfl) (by kernel_rfl) (by kernel_rfl) rfl rfl rfl rfl ?_
    refine X.dSkip (i := 6) (by kernel_rfl) rfl rfl rfl rfl rfl ?_
    refine X.dSkip (i := 7) (by kernel_rfl) rfl rfl rfl rfl rfl ?_
    refine X.dTake 8 rfl (by kernel_rfl) (by kernel_rfl) (by kernel_rfl) (X.dwN rfl) (fun w' hk' => X.pickT (v := .bool true) rfl rfl) ?_
    refine X.dEnd (by kernel_rfl) ?_
    refine X.condT rfl ?_
    refine X.seq ?_
    refine X.region ?_
    refine X.opw X.wN rfl (X.loadNB Try.isAgg29 Try.sizeOf29 (hB3.keep hk4) rfl rfl rfl) ?_
    refine X.opw X.wN rfl (X.move (v := .bool _) rfl) ?_
    refine X.opE X.wN rfl (X.storeNE Try.sizeOf29 (hB3.keep hk4) rfl rfl rfl rfl (fun u hu => by simp at hu; rcases hu with rfl | rfl <;> rfl)) ?_
    rintro _ w5 ⟨hB5, hx5, hz5⟩
    refine X.opw X.wN rfl (X.assign (v := .bool _) rfl) ?_
    refine X.opsEnd ?_
    refine X.ret_unw (X.unwR2 Try.func67 Try.results67 (X.ResOk.cell rfl (X.lvN Try.isAgg29 Try.sizeOf29 hB5 rfl)) (show X.ResOk _ _ _ (.tmp 4) (.bool _) from rfl) ?_)
    rw [← hhl]
    exact ⟨rfl, (Ext.andThen (Ext.andThen (Ext.andThen (Ext.andThen hE hx2 (by intro k h1 h2; first | exact (h2 : False).elim | exact .inl h2 | exact .inr h2 | (exfalso; (try simp only [] at *); omega))) hx3 (by intro k h1 h2; first | exact (h2 : False).elim | exact .inl h2 | exact .inr h2 | (exfalso; (try simp only [] at *); omega))) hk4 (by intro k h1 h2; first | exact (h2 : False).elim | exact .inl h2 | exact .inr h2 | (exfalso; (try simp only [] at *); omega))) hx5 (by intro k h1 h2; first | exact (h2 : False).elim | exact .inl h2 | exact .inr h2 | (exfalso; (try simp only [] at *); omega))), fun h => absurd rfl h⟩
  · obtain ⟨x, xs', rfl⟩ : ∃ x xs', xs = x :: xs' := by
      cases xs with
      | nil => simp at h12
      | cons x xs' => exact ⟨x, xs', rfl⟩
    refine X.dTake 3 rfl (by kernel_rfl) (by kernel_rfl) (by kernel_rfl) (X.dwG rfl rfl rfl) (fun w' hk' => X.load1B Try.isAgg46 ((((hBb.ext hx2 (by intro h; have := hsepA _ h; omega)).ext hx3 (by first | (intros; (try simp only []); omega) | (intro h; have := hsepB _ h; omega))).keep hk4).ext hk' (by first | (intros; (try simp only []); omega) | (intro h; have := hsepB _ h; omega))) rfl rfl) ?_
    refine X.dTake 4 rfl (by kernel_rfl) (by kernel_rfl) (by kernel_rfl) (X.dwG rfl rfl rfl) (fun w' hk' => X.loadNB Try.isAgg29 Try.sizeOf29 ((hB3.keep hk4).ext hk' (by first | (intros; (try simp only []); omega) | (intro h; have := hsepB _ h; omega))) rfl rfl rfl) ?_
    refine X.dTake 6 rfl (by kernel_rfl) (by kernel_rfl) (by kernel_rfl) (X.dwG rfl rfl rfl) (fun w' hk' => X.load1B Try.isAgg4 ((((hBc.ext hx2 (by intro h; have := hsepA _ h; omega)).ext hx3 (by first | (intros; (try simp only []); omega) | (intro h; have := hsepB _ h; omega))).keep hk4).ext hk' (by first | (intros; (try simp only []); omega) | (intro h; have := hsepB _ h; omega))) rfl rfl) ?_
    refine X.dE (i := 5) (by kernel_rfl) rfl (X.dwG rfl rfl rfl) ((YC.of_ret (args := [_]) (cap := [_, _]) (has_c x _ (((hBd.ext hx2 (by intro h; have := hsepA _ h; omega)).ext hx3 (by first | (intros; (try simp only []); omega) | (intro h; have := hsepB _ h; omega))).keep hk4) (((hBe.ext hx2 (by intro h; have := hsepA _ h; omega)).ext hx3 (by first | (intros; (try simp only []); omega) | (intro h; have := hsepB _ h; omega))).keep hk4) (((hHd.ext hx2 (fun k hk h => hdA k h)).ext hx3 (by intro k hk hk2; first | (refine ⟨?_, fun ht => ?_⟩ <;> ((try simp only [] at *); first | omega | (have := hTa k ht; omega) | (have := hTb k ht; omega))) | (refine ⟨?_, fun ht => ?_, ?_⟩ <;> ((try simp only [] at *); first | omega | (have := hTb k ht; omega))))).keep hk4) (by omega) hBh (by omega) hTh (fun k hk => by have := hTb k hk; omega) (fun k hk => by have := hsepB k hk; omega) hcmp) Try.call66) _ _ _ _ _ _ _ _ _ rfl rfl) (by rintro _ w6 ⟨rfl, hH6, hx6⟩ _; exact hx6) ?_
    rintro _ w6 ⟨rfl, hH6, hx6⟩
    have hx6' := hx6.size
    refine X.dTake 7 rfl (by kernel_rfl) (by kernel_rfl) (by kernel_rfl) (X.dwG rfl rfl rfl) (fun w' hk' => X.eqB Try.underlying4 rfl rfl) ?_
    refine X.dTake 8 rfl (by kernel_rfl) (by kernel_rfl) (by kernel_rfl) (X.dwN rfl) (fun w' hk' => X.pickF (v := .bool _) rfl rfl) ?_
    refine X.dEnd (by kernel_rfl) ?_
    refine X.condB rfl (fun hc => ?_) (fun hc => ?_)
    · have h18 : hasT x ys = t := by simpa using hc
      refine X.seq ?_
      refine X.region ?_
      refine X.opw X.wN rfl (X.loadNB Try.isAgg29 Try.sizeOf29 ((hB3.keep hk4).ext hx6 (by intro h; have := hsepB _ h; omega)) rfl rfl rfl) ?_
      refine X.opw X.wN rfl (X.move (v := .bool _) rfl) ?_
      refine X.opE X.wN rfl (X.storeNE Try.sizeOf29 ((hB3.keep hk4).ext hx6 (by intro h; have := hsepB _ h; omega)) rfl rfl rfl rfl (fun u hu => by simp at hu; rcases hu with rfl | rfl <;> rfl)) ?_
      rintro _ w7 ⟨hB7, hx7, hz7⟩
      refine X.opw X.wN rfl (X.assign (v := .bool _) rfl) ?_
      refine X.opsEnd ?_
      refine X.ret_unw (X.unwR2 Try.func67 Try.results67 (X.ResOk.cell rfl (X.lvN Try.isAgg29 Try.sizeOf29 hB7 rfl)) (show X.ResOk _ _ _ (.tmp 4) (.bool _) from rfl) ?_)
      rw [← hhl, heldL_yes h18]
      exact ⟨rfl, (Ext.andThen (Ext.andThen (Ext.andThen (Ext.andThen (Ext.andThen hE hx2 (by intro k h1 h2; first | exact (h2 : False).elim | exact .inl h2 | exact .inr h2 | (exfalso; (try simp only [] at *); omega))) hx3 (by intro k h1 h2; first | exact (h2 : False).elim | exact .inl h2 | exact .inr h2 | (exfalso; (try simp only [] at *); omega))) hk4 (by intro k h1 h2; first | exact (h2 : False).elim | exact .inl h2 | exact .inr h2 | (exfalso; (try simp only [] at *); omega))) hx6 (by intro k h1 h2; first | exact (h2 : False).elim | exact .inl h2 | exact .inr h2 | (exfalso; (try simp only [] at *); omega))) hx7 (by intro k h1 h2; first | exact (h2 : False).elim | exact .inl h2 | exact .inr h2 | (exfalso; (try simp only [] at *); omega))), fun _ => ⟨xs', _, rfl, ((((hC2.ext hx3 (by intro k hk hk2; first | (refine ⟨?_, fun ht => ?_⟩ <;> ((try simp only [] at *); first | omega | (have := hTa k ht; omega) | (have := hTb k ht; omega))) | (refine ⟨?_, fun ht => ?_, ?_⟩ <;> ((try simp only [] at *); first | omega | (have := hTb k ht; omega))))).keep hk4).ext hx6 (fun k hk h => hdB k h)).ext hx7 (by intro k hk hk2; first | (refine ⟨?_, fun ht => ?_⟩ <;> ((try simp only [] at *); first | omega | (have := hTa k ht; omega) | (have := hTb k ht; omega))) | (refine ⟨?_, fun ht => ?_, ?_⟩ <;> ((try simp only [] at *); first | omega | (have := hTb k ht; omega))))), (hH6.ext hx7 (by intro k hk hk2; first | (refine ⟨?_, fun ht => ?_⟩ <;> ((try simp only [] at *); first | omega | (have := hTa k ht; omega) | (have := hTb k ht; omega))) | (refine ⟨?_, fun ht => ?_, ?_⟩ <;> ((try simp only [] at *); first | omega | (have := hTb k ht; omega)))))⟩⟩
    · have h18 : ¬ hasT x ys = t := by simpa using hc
      refine X.skip ?_
      refine X.inBlock ?_
      refine hback (x, xs', skipT x ys) _ _ ⟨rfl, rfl, rfl, rfl, trivial⟩ ⟨(heldL_no h18).symm.trans hhl, ⟨((((hBa.ext hx2 (by intro h; have := hsepA _ h; omega)).ext hx3 (by first | (intros; (try simp only []); omega) | (intro h; have := hsepB _ h; omega))).keep hk4).ext hx6 (by intro h; have := hsepB _ h; omega)), ((((hBb.ext hx2 (by intro h; have := hsepA _ h; omega)).ext hx3 (by first | (intros; (try simp only []); omega) | (intro h; have := hsepB _ h; omega))).keep hk4).ext hx6 (by intro h; have := hsepB _ h; omega)), ((((hBc.ext hx2 (by intro h; have := hsepA _ h; omega)).ext hx3 (by first | (intros; (try simp only []); omega) | (intro h; have := hsepB _ h; omega))).keep hk4).ext hx6 (by intro h; have := hsepB _ h; omega)), ((((hBd.ext hx2 (by intro h; have := hsepA _ h; omega)).ext hx3 (by first | (intros; (try simp only []); omega) | (intro h; have := hsepB _ h; omega))).keep hk4).ext hx6 (by intro h; have := hsepB _ h; omega)), ((((hBe.ext hx2 (by intro h; have := hsepA _ h; omega)).ext hx3 (by first | (intros; (try simp only []); omega) | (intro h; have := hsepB _ h; omega))).keep hk4).ext hx6 (by intro h; have := hsepB _ h; omega))⟩, ((hB3.keep hk4).ext hx6 (by intro h; have := hsepB _ h; omega)), (((hC2.ext hx3 (by intro k hk hk2; first | (refine ⟨?_, fun ht => ?_⟩ <;> ((try simp only [] at *); first | omega | (have := hTa k ht; omega) | (have := hTb k ht; omega))) | (refine ⟨?_, fun ht => ?_, ?_⟩ <;> ((try simp only [] at *); first | omega | (have := hTb k ht; omega))))).keep hk4).ext hx6 (fun k hk h => hdB k h)), hH6, (Ext.andThen (Ext.andThen (Ext.andThen (Ext.andThen hE hx2 (by intro k h1 h2; first | exact (h2 : False).elim | exact .inl h2 | exact .inr h2 | (exfalso; (try simp only [] at *); omega))) hx3 (by intro k h1 h2; first | exact (h2 : False).elim | exact .inl h2 | exact .inr h2 | (exfalso; (try simp only [] at *); omega))) hk4 (by intro k h1 h2; first | exact (h2 : False).elim | exact .inl h2 | exact .inr h2 | (exfalso; (try simp only [] at *); omega))) hx6 (by intro k h1 h2; first | exact (h2 : False).elim | exact .inl h2 | exact .inr h2 | (exfalso; (try simp only [] at *); omega))), by omega⟩ (by simp)
end Go.Proofs.Ytgfficbkajcdpaa

namespace Go.Proofs.Ytgfficbkajcdpaa
open Go Go.Proofs.Ytgfficbkajcdpaa.X
set_option linter.unusedVariables false
set_option linter.unusedSimpArgs false
theorem held_stp (t : Bool) {B a b hb c5 c10 c7 c9 c4 : Nat} {Ta Tb : Nat → Prop} {xs0 ys0 : List TH} {cv p : Value} {w : World} (hbl : Blk w c5 [.iface 84 p] 33 ∧ Blk w c10 [(.func (.func 66) #[] #[ptrV c9, ptrV c4])] 46 ∧ Blk w c7 [.bool t] 4 ∧ Blk w c9 [ptrV hb] 85 ∧ Blk w c4 [cv] 35) (hCa : Cur Try.prog evT (0, 0) NX B Ta p xs0 w) (hd : Hd B Tb hb ys0 w) (hBa : B ≤ a) (hbw : b ≤ w.heap.size)
    (hTa : ∀ k, Ta k → a ≤ k ∧ k < b) (hTb : ∀ k, (Tb k ∨ k = hb) → a ≤ k ∧ k < b) (h5 : a ≤ c5 ∧ c5 < b) (h10 : a ≤ c10 ∧ c10 < b) (h7 : a ≤ c7 ∧ c7 < b) (h9 : a ≤ c9 ∧ c9 < b) (h4 : a ≤ c4 ∧ c4 < b) (hTh : ¬ Tb hb)
    (hsepA : ∀ k, Ta k → k ≠ c5 ∧ k ≠ c10 ∧ k ≠ c7 ∧ k ≠ c9 ∧ k ≠ c4) (hsepB : ∀ k, (Tb k ∨ k = hb) → k ≠ c5 ∧ k ≠ c10 ∧ k ≠ c7 ∧ k ≠ c9 ∧ k ≠ c4) (hdd : ∀ k, Ta k → ¬ Tb k ∧ k ≠ hb) (hcmp : CmpOk cv) :
    Stp Try.prog evT (0, 0) B (fun k => a ≤ k ∧ k < b) (.func (.func 67) #[] #[ptrV c5, ptrV c10, ptrV c7]) (heldL t xs0 ys0) w := by
  have hU : ∀ k, (Ta k ∨ Tb k ∨ k = hb) → a ≤ k ∧ k < b := fun k h => h.elim (hTa k) (hTb k)
  refine ⟨fun l w => ∃ xs0 ys0, l = heldL t xs0 ys0 ∧ b ≤ w.heap.size ∧ (Blk w c5 [.iface 84 p] 33 ∧ Blk w c10 [(.func (.func 66) #[] #[ptrV c9, ptrV c4])] 46 ∧ Blk w c7 [.bool t] 4 ∧ Blk w c9 [ptrV hb] 85 ∧ Blk w c4 [cv] 35) ∧ Cur Try.prog evT (0, 0) NX B Ta p xs0 w ∧ Hd B Tb hb ys0 w, ⟨xs0, ys0, rfl, hbw, hbl, hCa, hd⟩, ?_, ?_⟩
  · rintro l w w' ⟨xs, ys, g1, g2, ⟨q5, q10, q7, q9, q4⟩, g4, g5⟩ ha
    have hz := ha.size
    exact ⟨xs, ys, g1, by omega, ⟨ha.blk q5 h5, ha.blk q10 h10, ha.blk q7 h7, ha.blk q9 h9, ha.blk q4 h4⟩, g4.agree (ha.sub hTa), g5.ext ha fun k _ hk => ⟨hk.1, fun h => hk.2 (hTb k (.inl h)), fun h => hk.2 (hTb k (.inr h))⟩⟩
  · rintro l w ⟨xs, ys, rfl, g2, g3, g4, g5⟩
    refine YC.of_ret (args := []) (cap := [_, _, _]) ((held2_c t w g3 g4 g5 (by omega) (by have := hTb hb (.inr rfl); omega) hTh (fun k hk => by have := hTa k hk; omega) (fun k hk => by have := hTb k (.inl hk); omega)
      (fun k hk => by have := hsepA k hk; have := hTa k hk; omega) (fun k hk => by have := hsepB k hk; have := hTb k hk; omega) (fun k hk => ⟨by have := hTa k hk; omega, hdd k hk⟩) (fun k hk => ⟨by have := hTb k hk; omega, fun h => hk.elim (hdd k h).1 (hdd k h).2⟩) hcmp).mono ?_) Try.call67
    rintro r w' ⟨rfl, hx, hn'⟩
    obtain ⟨q5, q10, q7, q9, q4⟩ := g3
    have hz := hx.size
    refine ⟨rfl, hx.mono fun k _ hk => hU k hk, fun hne => ?_⟩
    obtain ⟨xs', ys', e1, e2, e3⟩ := hn' hne
    have hs : ∀ k, (Ta k ∨ Tb k ∨ k = hb) → k ≠ c5 ∧ k ≠ c10 ∧ k ≠ c7 ∧ k ≠ c9 ∧ k ≠ c4 := fun k h => h.elim (hsepA k) (hsepB k)
    exact ⟨xs', ys', e1, by omega, ⟨q5.ext hx (fun h => (hs _ h).1 rfl), q10.ext hx (fun h => (hs _ h).2.1 rfl), q7.ext hx (fun h => (hs _ h).2.2.1 rfl), q9.ext hx (fun h => (hs _ h).2.2.2.1 rfl), q4.ext hx (fun h => (hs _ h).2.2.2.2 rfl)⟩, e2, e3⟩
theorem CV.isC {B : Nat} {T : Nat → Prop} {c : Value} {xs : List TH} {w : World} (h : CV B T c xs w) : IsC c := h.elim (fun h => .inl h.1) (fun ⟨p, h, _⟩ => .inr ⟨p, h⟩)
-- f54 "pedigree/merge.held[pedigree/pedigreeref09.Thing]" params [35, 33, 33, 4] results [33] -> [(ResultVar.
set_option maxHeartbeats 4000000 in
set_option maxRecDepth 100000 in
theorem held_c (t : Bool) {B a0 b0 a1 b1 : Nat} {p y : Value} {l0 l1 : List TH} {fn : Fn} {bs ca : Array Value} (w : World) (h0 : CV B (fun k => a0 ≤ k ∧ k < b0) (.iface 84 p) l0 w) (h1 : CV B (fun k => a1 ≤ k ∧ k < b1) y l1 w) (hB : B ≤ a0) (hab : a0 ≤ b0) (h01 : b0 ≤ a1) (h1b : a1 ≤ b1) (hb : b1 ≤ w.heap.size) (hcmp : CmpOk (.func fn bs ca)) :
    Ret Try.prog 54 #[.func fn bs ca, .iface 84 p, y, .bool t] w fun r w' => (∃ p', r = .iface 84 p') ∧ CV B (fun k => a0 ≤ k ∧ k < w'.heap.size) r (heldL t l0 l1) w' ∧ Keep w w' := by
  refine X.enter Try.func54 rfl Try.ntmps54 rfl ?_
  refine X.seq ?_
  refine X.region ?_
  refine X.opE X.wN rfl (X.boxE rfl rfl) ?_
  rintro _ w1 ⟨rfl, hB1, hk1, hz1⟩
  refine X.opE X.wN rfl (X.boxE rfl rfl) ?_
  rintro _ w2 ⟨rfl, hB2, hk2, hz2⟩
  refine X.opE X.wN rfl (X.boxE rfl rfl) ?_
  rintro _ w3 ⟨rfl, hB3, hk3, hz3⟩
  refine X.opw X.wN rfl (X.assign rfl) ?_
  refine X.opsEnd ?_
  refine X.seq ?_
  refine X.seq ?_
  refine X.region ?_
  refine X.opw X.wN rfl (X.load1B Try.isAgg35 (hB1.keep (hk2.trans hk3)) rfl rfl) ?_
  refine X.opw X.wN rfl (X.eqFn1 Try.underlying35 rfl rfl) ?_
  refine X.opw X.wN rfl (X.move (v := .bool false) rfl) ?_
  refine X.opw (X.wG rfl rfl rfl) rfl (X.load1B Try.isAgg33 (hB2.keep hk3) rfl rfl) ?_
  refine X.opw (X.wG rfl rfl rfl) rfl (X.eqIf1 Try.underlying33 rfl rfl) ?_
  refine X.opw X.wN rfl (X.pickF (v := .bool false) rfl rfl) ?_
  refine X.opsEnd ?_
  refine X.condF rfl ?_
  refine X.skip ?_
  refine X.seq ?_
  refine X.region ?_
  refine X.opw X.wN rfl (X.move rfl) ?_
  refine X.opw X.wN rfl (X.buildB (vs := [(0, y)]) (cs := #[y, .int .i8 0, .int .i64 0, .bool false, .bool false]) rfl (build_hd y h1.isC)) ?_
  refine X.opE X.wN rfl (X.boxE rfl rfl) ?_
  rintro _ w4 ⟨rfl, hB4, hk4, hz4⟩
  refine X.opE X.wN rfl (X.allocE Try.zeroValue85 rfl) ?_
  rintro _ w5 ⟨rfl, hB5, hk5, hz5⟩
  refine X.opE X.wN rfl (X.storeE Try.sizeOf85 hB5 rfl rfl rfl rfl) ?_
  rintro _ w6 ⟨hB6, hx6, hz6⟩
  refine X.opsEnd ?_
  refine X.seq ?_
  refine X.region ?_
  refine X.opw X.wN rfl (X.mkFunc rfl) ?_
  refine X.opE X.wN rfl (X.allocE Try.zeroValue46 rfl) ?_
  rintro _ w7 ⟨rfl, hB7, hk7, hz7⟩
  refine X.opE X.wN rfl (X.storeE Try.sizeOf46 hB7 rfl rfl rfl rfl) ?_
  rintro _ w8 ⟨hB8, hx8, hz8⟩
  refine X.opsEnd ?_
  refine X.seq ?_
  refine X.region ?_
  refine X.opw X.wN rfl (X.mkFunc rfl) ?_
  refine X.opw X.wN rfl (X.buildB (vs := [(0, .func (.func 67) #[] #[ptrV (w1.heap.size), ptrV (w6.heap.size), ptrV (w2.heap.size)])]) (cs := #[.func (.func 67) #[] #[ptrV (w1.heap.size), ptrV (w6.heap.size), ptrV (w2.heap.size)], .bool false]) rfl (by kernel_rfl)) ?_
  refine X.opE X.wN rfl (X.boxE rfl rfl) ?_
  rintro _ w9 ⟨rfl, hB9, hk9, hz9⟩
  refine X.opw X.wN rfl (X.mkIface Try.underlying84 rfl rfl) ?_
  refine X.opw X.wN rfl (X.assign rfl) ?_
  refine X.opsEnd ?_
  refine X.ret1 Try.func54 Try.results54 rfl ?_
  refine ⟨⟨_, rfl⟩, ?_, ((((((((hk1.trans hk2).trans hk3).trans hk4).trans hk5).step hx6 (by intros; (try simp only [] at *); omega)).trans hk7).step hx8 (by intros; (try simp only [] at *); omega)).trans hk9)⟩
  exact CV.wide (cur_made (a := a0) (b := w8.heap.size) (held_stp (Ta := fun k => a0 ≤ k ∧ k < b0) (Tb := fun k => a1 ≤ k ∧ k < b1) t ⟨(hB2.keep ((((((hk3.trans hk4).trans hk5).step hx6 (by intros; (try simp only [] at *); omega)).trans hk7).step hx8 (by intros; (try simp only [] at *); omega)).trans hk9)), (hB8.keep hk9), (hB3.keep (((((hk4.trans hk5).step hx6 (by intros; (try simp only [] at *); omega)).trans hk7).step hx8 (by intros; (try simp only [] at *); omega)).trans hk9)), (hB6.keep ((hk7.step hx8 (by intros; (try simp only [] at *); omega)).trans hk9)), (hB1.keep (((((((hk2.trans hk3).trans hk4).trans hk5).step hx6 (by intros; (try simp only [] at *); omega)).trans hk7).step hx8 (by intros; (try simp only [] at *); omega)).trans hk9))⟩ (CV.cur (h0.keep ((((((((hk1.trans hk2).trans hk3).trans hk4).trans hk5).step hx6 (by intros; (try simp only [] at *); omega)).trans hk7).step hx8 (by intros; (try simp only [] at *); omega)).trans hk9))) (.inl ⟨y, (0, 0), (hB4.keep ((((hk5.step hx6 (by intros; (try simp only [] at *); omega)).trans hk7).step hx8 (by intros; (try simp only [] at *); omega)).trans hk9)), h1.keep ((((((((hk1.trans hk2).trans hk3).trans hk4).trans hk5).step hx6 (by intros; (try simp only [] at *); omega)).trans hk7).step hx8 (by intros; (try simp only [] at *); omega)).trans hk9)⟩) hB (by omega) (fun k hk => by omega) (fun k hk => by (try simp only [] at *); omega) (by omega) (by omega) (by omega) (by omega) (by omega) (by omega) (fun k hk => by (try simp only [] at *); omega) (fun k hk => by (try simp only [] at *); omega) (fun k hk => by (try simp only [] at *); omega) hcmp) hB9 (by omega) (Nat.le_refl _) (by omega)) (fun k hk => by omega)
-- f28 "pedigree/merge.Both[pedigree/pedigreeref09.Thing]" params [35, 33, 33] results [33] -> [(ResultVar.tmp
set_option maxHeartbeats 4000000 in
set_option maxRecDepth 100000 in
theorem Both_c {B a0 b0 a1 b1 : Nat} {p y : Value} {l0 l1 : List TH} {fn : Fn} {bs ca : Array Value} (w : World) (h0 : CV B (fun k => a0 ≤ k ∧ k < b0) (.iface 84 p) l0 w) (h1 : CV B (fun k => a1 ≤ k ∧ k < b1) y l1 w) (hB : B ≤ a0) (hab : a0 ≤ b0) (h01 : b0 ≤ a1) (h1b : a1 ≤ b1) (hb : b1 ≤ w.heap.size) (hcmp : CmpOk (.func fn bs ca)) :
    Ret Try.prog 28 #[.func fn bs ca, .iface 84 p, y] w fun r w' => (∃ p', r = .iface 84 p') ∧ CV B (fun k => a0 ≤ k ∧ k < w'.heap.size) r (heldL true l0 l1) w' ∧ Keep w w' := by
  refine X.enter Try.func28 rfl Try.ntmps28 rfl ?_
  refine X.seq ?_
  refine X.region ?_
  refine X.opw X.wN rfl (X.assign rfl) ?_
  refine X.opsEnd ?_
  refine X.seq ?_
  refine X.region ?_
  refine X.opw X.wN rfl (X.move rfl) ?_
  refine X.opw X.wN rfl (X.move rfl) ?_
  refine X.opw X.wN rfl (X.move rfl) ?_
  refine X.opE X.wN rfl (X.callE (held_c true _ h0 h1 hB hab h01 h1b hb hcmp) Try.call54 rfl rfl) ?_
  rintro _ w1 ⟨⟨p1, rfl⟩, hC1, hk1⟩
  have hk1' := hk1.size
  refine X.opw X.wN rfl (X.assign rfl) ?_
  refine X.opsEnd ?_
  refine X.ret1 Try.func28 Try.results28 rfl ?_
  exact ⟨⟨_, rfl⟩, hC1, hk1⟩
-- f29 "pedigree/merge.Less[pedigree/pedigreeref09.Thing]" params [35, 33, 33] results [33] -> [(ResultVar.tmp
set_option maxHeartbeats 4000000 in
set_option maxRecDepth 100000 in
theorem Less_c {B a0 b0 a1 b1 : Nat} {p y : Value} {l0 l1 : List TH} {fn : Fn} {bs ca : Array Value} (w : World) (h0 : CV B (fun k => a0 ≤ k ∧ k < b0) (.iface 84 p) l0 w) (h1 : CV B (fun k => a1 ≤ k ∧ k < b1) y l1 w) (hB : B ≤ a0) (hab : a0 ≤ b0) (h01 : b0 ≤ a1) (h1b : a1 ≤ b1) (hb : b1 ≤ w.heap.size) (hcmp : CmpOk (.func fn bs ca)) :
    Ret Try.prog 29 #[.func fn bs ca, .iface 84 p, y] w fun r w' => (∃ p', r = .iface 84 p') ∧ CV B (fun k => a0 ≤ k ∧ k < w'.heap.size) r (heldL false l0 l1) w' ∧ Keep w w' := by
  refine X.enter Try.func29 rfl Try.ntmps29 rfl ?_
  refine X.seq ?_
  refine X.region ?_
  refine X.opw X.wN rfl (X.assign rfl) ?_
  refine X.opsEnd ?_
  refine X.seq ?_
  refine X.region ?_
  refine X.opw X.wN rfl (X.move rfl) ?_
  refine X.opw X.wN rfl (X.move rfl) ?_
  refine X.opw X.wN rfl (X.move rfl) ?_
  refine X.opE X.wN rfl (X.callE (held_c false _ h0 h1 hB hab h01 h1b hb hcmp) Try.call54 rfl rfl) ?_
  rintro _ w1 ⟨⟨p1, rfl⟩, hC1, hk1⟩
  have hk1' := hk1.size
  refine X.opw X.wN rfl (X.assign rfl) ?_
  refine X.opsEnd ?_
  refine X.ret1 Try.func29 Try.results29 rfl ?_
  exact ⟨⟨_, rfl⟩, hC1, hk1⟩
theorem skip_at {x y : TH} {l : List TH} {j : Nat} (hy : l[j]? = some y) (h : y.1 < x.1) : skipT x (l.drop (j + 1)) = skipT x (l.drop j) := by
  rw [drop_at hy]; exact (skip_go h).1.symm
theorem held_at {t : Bool} {x : TH} {l ys : List TH} {i : Nat} (hx : l[i]? = some x) : heldL t (l.drop i) ys = (if hasT x ys = t then [x] else []) ++ heldL t (l.drop (i + 1)) (skipT x ys) := by
  rw [drop_at hx, heldL]; split <;> rfl
-- f30 "pedigree/pedigreeref09.Held" params [24, 24, 4] results [24] -> [(ResultVar.tmp 6)] nfree 0 ntmps 60 n
set_option maxHeartbeats 4000000 in
set_option maxRecDepth 100000 in
theorem RHeld_c (t : Bool) {lo0 hi0 lo1 hi1 : Nat} {A0 A1 : Option Addr} {n0 c0 n1 c1 : Nat} {l0 l1 : List TH} (w : World) (hs0 : Sl KTh lo0 hi0 w A0 n0 l0) (hs1 : Sl KTh lo1 hi1 w A1 n1 l1) (hn : n0 ≤ 1000000) : Ret Try.prog 30 #[.slice A0 n0 c0, .slice A1 n1 c1, .bool t] w fun r w' => Fresh KTh 29 w w' r (heldL t l0 l1) := by
  have hl0 := hs0.len
  have hl1 := hs1.len
  have hbd := hs1.bound
  refine X.enter Try.func30 rfl Try.ntmps30 rfl ?_
  refine X.seq ?_
  refine X.region ?_
  refine X.opw X.wN rfl (X.assign rfl) ?_
  refine X.opsEnd ?_
  refine X.seq ?_
  refine X.region ?_
  refine X.opw X.wN rfl (X.assign rfl) ?_
  refine X.opsEnd ?_
  refine X.seq ?_
  refine X.region ?_
  refine X.opw X.wN rfl (X.assign rfl) ?_
  refine X.opsEnd ?_
  refine X.seq ?_
  refine X.seq ?_
  refine X.region ?_
  refine X.opw X.wN rfl (X.assign rfl) ?_
  refine X.opsEnd ?_
  refine X.block ?_
  -- LOOP live: 0=a, 1=b, 2=with, 7=k*, 8=out*, 9=i*
  refine X.loopL (σ := Nat × Nat × Value × List TH) (fun s => [(0, .slice A0 n0 c0), (1, .slice A1 n1 c1), (2, .bool t), (7, .int .i64 (s.2.1 : Int)), (8, s.2.2.1), (9, .int .i64 (s.1 : Int))]) (fun s w' => s.1 ≤ n0 ∧ s.2.1 ≤ n1 ∧ s.2.2.2.length ≤ s.1 ∧ s.2.2.2 ++ heldL t (l0.drop s.1) (l1.drop s.2.1) = heldL t l0 l1 ∧ Mine KTh 29 (fun k => w.heap.size ≤ k) 0 0 w' s.2.2.1 s.2.2.2 ∧ Keep w w') (fun s => n0 - s.1) (0, 0, _, []) ⟨rfl, rfl, rfl, rfl, rfl, rfl, trivial⟩ ⟨Nat.zero_le _, Nat.zero_le _, by simp, rfl, Mine.nil _ _ _ _ _ _, (Keep.refl _)⟩ ?_
  rintro ⟨i, j0, v, out⟩ b0 wl ⟨hi, hj0, hol, hh, hMo, hk⟩ hback
  dsimp only
  simp only at hi hj0 hol hh hMo
  have hk' := hk.size
  refine X.seq ?_
  refine X.seq ?_
  refine X.region ?_
  refine X.opw X.wN rfl (X.move (v := .int .i64 _) rfl) ?_
  refine X.opw X.wN rfl (X.move (v := .slice _ _ _) rfl) ?_
  refine X.opw X.wN rfl (X.lenSl Try.underlying24 rfl) ?_
  refine X.opP X.wN rfl rfl (X.lss rfl rfl) (fun h13 => ?_) (fun h13 => ?_)
  · obtain ⟨x, hx⟩ := get2 i hl0 (by omega)
    refine X.opsEnd ?_
    refine X.condT rfl ?_
    refine X.skip ?_
    refine X.seq ?_
    refine X.block ?_
    refine X.seq ?_
    refine X.block ?_
    -- LOOP live: 0=a, 1=b, 2=with, 7=k*, 8=out, 9=i
    refine X.loopL (σ := Nat) (fun s => [(0, .slice A0 n0 c0), (1, .slice A1 n1 c1), (2, .bool t), (7, .int .i64 (s : Int)), (8, v), (9, .int .i64 (i : Int))]) (fun s w' => s ≤ n1 ∧ skipT x (l1.drop s) = skipT x (l1.drop j0) ∧ Keep wl w' ∧ Keep w w') (fun s => n1 - s) j0 ⟨rfl, rfl, rfl, rfl, rfl, rfl, trivial⟩ ⟨hj0, rfl, Keep.refl _, hk⟩ ?_
    rintro j b2 wm ⟨hj, hsk, hwm, hkm⟩ hback2
    have hkm' := hkm.size
    refine X.seq ?_
    refine X.seq ?_
    refine X.regionD (fun _ => False) 16 (by kernel_rfl) (by kernel_rfl) (fun w1 hk1 hz1 => ?_)
    refine X.dTake 0 rfl (by kernel_rfl) (by kernel_rfl) (by kernel_rfl) (X.dwN rfl) (fun w' hk' => X.move (v := .int .i64 _) rfl) ?_
    refine X.dTake 1 rfl (by kernel_rfl) (by kernel_rfl) (by kernel_rfl) (X.dwN rfl) (fun w' hk' => X.move (v := .slice _ _ _) rfl) ?_
    refine X.dTake 2 rfl (by kernel_rfl) (by kernel_rfl) (by kernel_rfl) (X.dwN rfl) (fun w' hk' => X.lenSl Try.underlying24 rfl) ?_
    refine X.dTake 3 rfl (by kernel_rfl) (by kernel_rfl) (by kernel_rfl) (X.dwN rfl) (fun w' hk' => X.lss rfl rfl) ?_
    refine X.dTake 4 rfl (by kernel_rfl) (by kernel_rfl) (by kernel_rfl) (X.dwN rfl) (fun w' hk' => X.move (v := .bool _) rfl) ?_
    refine X.dFork 20 rfl (fun h20 => ?_) (fun h20 => ?_)
    · have hjn : j < n1 := by have := of_decide_eq_true h20; omega
      obtain ⟨y, hy⟩ := get2 j hl1 hjn
      refine X.dTake 5 rfl (by kernel_rfl) (by kernel_rfl) (by kernel_rfl) (X.dwG rfl rfl rfl) (fun w' hk' => X.move (v := .slice _ _ _) rfl) ?_
      refine X.dTake 6 rfl (by kernel_rfl) (by kernel_rfl) (by kernel_rfl) (X.dwG rfl rfl rfl) (fun w' hk' => X.move (v := .int .i64 _) rfl) ?_
      refine X.dTake 7 rfl (by kernel_rfl) (by kernel_rfl) (by kernel_rfl) (X.dwG rfl rfl rfl) (fun w' hk' => X.idxS (hs1.keep ((hkm.trans hk1).trans hk')) Try.underlying24 Try.sizeOf29 rfl rfl ⟨by omega, by omega⟩) ?_
      refine X.dTake 8 rfl (by kernel_rfl) (by kernel_rfl) (by kernel_rfl) (X.dwG rfl rfl rfl) (fun w' hk' => X.loadSN Try.isAgg29 Try.sizeOf29 (hs1.keep ((hkm.trans hk1).trans hk')) hy rfl (fun _ h => h.1) rfl) ?_
      refine X.dTake 9 rfl (by kernel_rfl) (by kernel_rfl) (by kernel_rfl) (X.dwG rfl rfl rfl) (fun w' hk' => X.move (v := .slice _ _ _) rfl) ?_
      refine X.dTake 10 rfl (by kernel_rfl) (by kernel_rfl) (by kernel_rfl) (X.dwG rfl rfl rfl) (fun w' hk' => X.move (v := .int .i64 _) rfl) ?_
      refine X.dTake 11 rfl (by kernel_rfl) (by kernel_rfl) (by kernel_rfl) (X.dwG rfl rfl rfl) (fun w' hk' => X.idxS (hs0.keep ((hkm.trans hk1).trans hk')) Try.underlying24 Try.sizeOf29 rfl rfl ⟨by omega, by omega⟩) ?_
      refine X.dTake 12 rfl (by kernel_rfl) (by kernel_rfl) (by kernel_rfl) (X.dwG rfl rfl rfl) (fun w' hk' => X.loadSN Try.isAgg29 Try.sizeOf29 (hs0.keep ((hkm.trans hk1).trans hk')) hx rfl (fun _ h => h.1) rfl) ?_
      refine X.dE (i := 13) (by kernel_rfl) rfl (X.dwG rfl rfl rfl) (X.callE (Compare_c y x _) Try.call17 rfl rfl) (by rintro _ w2 ⟨nc2, rfl, hlt2, hgt2, hk2⟩ _; exact hk2.mono (fun _ _ h => h.elim)) ?_
      rintro _ w2 ⟨nc2, rfl, hlt2, hgt2, hk2⟩
      have hk2' := hk2.size
      refine X.dTake 14 rfl (by kernel_rfl) (by kernel_rfl) (by kernel_rfl) (X.dwG rfl rfl rfl) (fun w' hk' => X.lss rfl rfl) ?_
      refine X.dTake 15 rfl (by kernel_rfl) (by kernel_rfl) (by kernel_rfl) (X.dwN rfl) (fun w' hk' => X.pickT (v := .bool _) rfl rfl) ?_
      refine X.dEnd (by kernel_rfl) ?_
      refine X.condB rfl (fun hc => ?_) (fun hc => ?_)
      · have hyx : y.1 < x.1 := hlt2.1 (by simpa using hc)
        refine X.skip ?_
        refine X.block ?_
        refine X.region ?_
        refine X.opw X.wN rfl (X.move (v := .int .i64 _) rfl) ?_
        refine X.opw X.wN rfl (X.add rfl rfl (X.w_i64 (by omega))) ?_
        refine X.opw X.wN rfl (X.assign (v := .int .i64 _) rfl) ?_
        refine X.opsEnd ?_
        refine X.inBlock ?_
        refine hback2 (j + 1) _ _ ⟨rfl, rfl, rfl, rfl, rfl, rfl, trivial⟩ ⟨by omega, (skip_at hy hyx).trans hsk, ((hwm.trans hk1).trans hk2), ((hkm.trans hk1).trans hk2)⟩ (by omega)
      · have hyx : ¬ y.1 < x.1 := fun h => by have := hlt2.2 h; simp at hc; omega
        have hski : skipT x (l1.drop j0) = l1.drop j := by rw [← hsk, drop_at hy]; exact (skip_stop hyx).1
        refine X.exit rfl ?_
        refine X.seq ?_
        refine X.regionD (fun _ => False) 18 (by kernel_rfl) (by kernel_rfl) (fun w3 hk3 hz3 => ?_)
        refine X.dTake 0 rfl (by kernel_rfl) (by kernel_rfl) (by kernel_rfl) (X.dwN rfl) (fun w' hk' => X.move (v := .int .i64 _) rfl) ?_
        refine X.dTake 1 rfl (by kernel_rfl) (by kernel_rfl) (by kernel_rfl) (X.dwN rfl) (fun w' hk' => X.move (v := .slice _ _ _) rfl) ?_
        refine X.dTake 2 rfl (by kernel_rfl) (by kernel_rfl) (by kernel_rfl) (X.dwN rfl) (fun w' hk' => X.lenSl Try.underlying24 rfl) ?_
        refine X.dTake 3 rfl (by kernel_rfl) (by kernel_rfl) (by kernel_rfl) (X.dwN rfl) (fun w' hk' => X.lss rfl rfl) ?_
        refine X.dTake 4 rfl (by kernel_rfl) (by kernel_rfl) (by kernel_rfl) (X.dwN rfl) (fun w' hk' => X.move (v := .bool _) rfl) ?_
        refine X.dTake 16 rfl (by kernel_rfl) (by kernel_rfl) (by kernel_rfl) (X.dwN rfl) (fun w' hk' => X.move (v := .bool _) rfl) ?_
        refine X.dFork 38 rfl (fun h38 => ?_) (fun h38 => ?_)
        · have hhas : hasT x (l1.drop j0) = decide (y.1 = x.1) := by rw [hasT, hski, drop_at hy]
          refine X.dTake 5 rfl (by kernel_rfl) (by kernel_rfl) (by kernel_rfl) (X.dwG rfl rfl rfl) (fun w' hk' => X.move (v := .slice _ _ _) rfl) ?_
          refine X.dTake 6 rfl (by kernel_rfl) (by kernel_rfl) (by kernel_rfl) (X.dwG rfl rfl rfl) (fun w' hk' => X.move (v := .int .i64 _) rfl) ?_
          refine X.dTake 7 rfl (by kernel_rfl) (by kernel_rfl) (by kernel_rfl) (X.dwG rfl rfl rfl) (fun w' hk' => X.idxS (hs1.keep ((((hkm.trans hk1).trans hk2).trans hk3).trans hk')) Try.underlying24 Try.sizeOf29 rfl rfl ⟨by omega, by omega⟩) ?_
          refine X.dTake 8 rfl (by kernel_rfl) (by kernel_rfl) (by kernel_rfl) (X.dwG rfl rfl rfl) (fun w' hk' => X.loadSN Try.isAgg29 Try.sizeOf29 (hs1.keep ((((hkm.trans hk1).trans hk2).trans hk3).trans hk')) hy rfl (fun _ h => h.1) rfl) ?_
          refine X.dTake 9 rfl (by kernel_rfl) (by kernel_rfl) (by kernel_rfl) (X.dwG rfl rfl rfl) (fun w' hk' => X.move (v := .slice _ _ _) rfl) ?_
          refine X.dTake 10 rfl (by kernel_rfl) (by kernel_rfl) (by kernel_rfl) (X.dwG rfl rfl rfl) (fun w' hk' => X.move (v := .int .i64 _) rfl) ?_
          refine X.dTake 11 rfl (by kernel_rfl) (by kernel_rfl) (by kernel_rfl) (X.dwG rfl rfl rfl) (fun w' hk' => X.idxS (hs0.keep ((((hkm.trans hk1).trans hk2).trans hk3).trans hk')) Try.underlying24 Try.sizeOf29 rfl rfl ⟨by omega, by omega⟩) ?_
          refine X.dTake 12 rfl (by kernel_rfl) (by kernel_rfl) (by kernel_rfl) (X.dwG rfl rfl rfl) (fun w' hk' => X.loadSN Try.isAgg29 Try.sizeOf29 (hs0.keep ((((hkm.trans hk1).trans hk2).trans hk3).trans hk')) hx rfl (fun _ h => h.1) rfl) ?_
          refine X.dE (i := 13) (by kernel_rfl) rfl (X.dwG rfl rfl rfl) (X.callE (Compare_c y x _) Try.call17 rfl rfl) (by rintro _ w4 ⟨nc4, rfl, hlt4, hgt4, hk4⟩ _; exact hk4.mono (fun _ _ h => h.elim)) ?_
          rintro _ w4 ⟨nc4, rfl, hlt4, hgt4, hk4⟩
          have hk4' := hk4.size
          refine X.dTake 14 rfl (by kernel_rfl) (by kernel_rfl) (by kernel_rfl) (X.dwG rfl rfl rfl) (fun w' hk' => X.eqI rfl rfl) ?_
          refine X.dTake 15 rfl (by kernel_rfl) (by kernel_rfl) (by kernel_rfl) (X.dwN rfl) (fun w' hk' => X.pickT (v := .bool _) rfl rfl) ?_
          refine X.dTake 17 rfl (by kernel_rfl) (by kernel_rfl) (by kernel_rfl) (X.dwN rfl) (fun w' hk' => X.eqB Try.underlying4 rfl rfl) ?_
          refine X.dEnd (by kernel_rfl) ?_
          refine X.condB rfl (fun hc2 => ?_) (fun hc2 => ?_)
          · have hq : hasT x (l1.drop j0) = t := by
              rw [hhas, show decide (y.1 = x.1) = decide (nc4 = 0) from decide_eq_decide.2 ⟨fun h => by have := mt hlt4.1 (by omega); have := mt hgt4.1 (by omega); omega, fun h => by have := mt hlt4.2 (by omega); have := mt hgt4.2 (by omega); omega⟩]
              simpa using hc2
            refine X.region ?_
            refine X.opw X.wN rfl (X.move rfl) ?_
            refine X.opw X.wN rfl (X.move (v := .slice _ _ _) rfl) ?_
            refine X.opw X.wN rfl (X.move (v := .int .i64 _) rfl) ?_
            refine X.opw X.wN rfl (X.idxS (hs0.keep ((((hkm.trans hk1).trans hk2).trans hk3).trans hk4)) Try.underlying24 Try.sizeOf29 rfl rfl ⟨by omega, by omega⟩) ?_
            refine X.opw X.wN rfl (X.loadSN Try.isAgg29 Try.sizeOf29 (hs0.keep ((((hkm.trans hk1).trans hk2).trans hk3).trans hk4)) hx rfl (fun _ h => h.1) rfl) ?_
            refine X.opE X.wN rfl (X.litKF KTh_flat (K := KTh) (xs := [Operand.tmp 56]) (vs := [evT x]) (ys := [x]) Try.underlying24 Try.sizeOf29 Try.zeroValue29 rfl rfl rfl rfl rfl (repsT x)) ?_
            rintro _ w5 ⟨rfl, hs5, hB5, hk5, hz5⟩
            refine X.opE X.wN rfl (X.appE (K := KTh) (S := fun k => w.heap.size ≤ k) KTh_flat Try.underlying24 ETh rfl rfl ((hMo.keep hwm).keep ((((hk1.trans hk2).trans hk3).trans hk4).trans hk5)) hs5 (by (try simp only [List.length_append, List.length_cons, List.length_nil, List.length_take, List.length_drop, List.length_map, List.length_range]); omega) (by intros; (try simp only [] at *); omega)) ?_
            rintro v6 w6 ⟨hM6, hx6⟩
            have hx6' := hx6.size
            refine X.opw X.wN rfl (X.assign rfl) ?_
            refine X.opsEnd ?_
            refine X.inBlock ?_
            refine X.region ?_
            refine X.opw X.wN rfl (X.move (v := .int .i64 _) rfl) ?_
            refine X.opw X.wN rfl (X.add rfl rfl (X.w_i64 (by omega))) ?_
            refine X.opw X.wN rfl (X.assign (v := .int .i64 _) rfl) ?_
            refine X.opsEnd ?_
            refine hback (i + 1, j, _, out ++ [x]) _ _ ⟨rfl, rfl, rfl, rfl, rfl, rfl, trivial⟩ ⟨by dsimp only; omega, hj, by dsimp only; rw [List.length_append]; simp only [List.length_cons, List.length_nil]; omega, by dsimp only; rw [← hh, held_at hx, if_pos hq, hski]; simp, hM6, ((((((hkm.trans hk1).trans hk2).trans hk3).trans hk4).trans hk5).step hx6 (by intros; (try simp only [] at *); omega))⟩ (by dsimp only; omega)
          · have hq : ¬ hasT x (l1.drop j0) = t := by
              rw [hhas, show decide (y.1 = x.1) = decide (nc4 = 0) from decide_eq_decide.2 ⟨fun h => by have := mt hlt4.1 (by omega); have := mt hgt4.1 (by omega); omega, fun h => by have := mt hlt4.2 (by omega); have := mt hgt4.2 (by omega); omega⟩]
              simpa using hc2
            refine X.skip ?_
            refine X.inBlock ?_
            refine X.region ?_
            refine X.opw X.wN rfl (X.move (v := .int .i64 _) rfl) ?_
            refine X.opw X.wN rfl (X.add rfl rfl (X.w_i64 (by omega))) ?_
            refine X.opw X.wN rfl (X.assign (v := .int .i64 _) rfl) ?_
            refine X.opsEnd ?_
            refine hback (i + 1, j, _, out) _ _ ⟨rfl, rfl, rfl, rfl, rfl, rfl, trivial⟩ ⟨by dsimp only; omega, hj, by dsimp only; omega, by dsimp only; rw [← hh, held_at hx, if_neg hq, hski]; simp, ((hMo.keep hwm).keep (((hk1.trans hk2).trans hk3).trans hk4)), ((((hkm.trans hk1).trans hk2).trans hk3).trans hk4)⟩ (by dsimp only; omega)
        · exact absurd (of_decide_eq_false h38) (by omega)
    · have hjn : ¬ j < n1 := by have := of_decide_eq_false h20; omega
      have hhas : hasT x (l1.drop j0) = false := by rw [hasT, ← hsk, List.drop_of_length_le (show l1.length ≤ j by omega)]; rfl
      have hski : skipT x (l1.drop j0) = l1.drop j := by rw [← hsk, List.drop_of_length_le (show l1.length ≤ j by omega)]; rfl
      refine X.dTakeS 5 rfl (by kernel_rfl) (by kernel_rfl) (by kernel_rfl) rfl rfl rfl rfl ?_
      refine X.dTakeS 6 rfl (by kernel_rfl) (by kernel_rfl) (by kernel_rfl) rfl rfl rfl rfl ?_
      refine X.dTakeS 7 rfl (by kernel_rfl) (by kernel_rfl) (by kernel_rfl) rfl rfl rfl rfl ?_
      refine X.dTakeS 8 rfl (by kernel_rfl) (by kernel_rfl) (by kernel_rfl) rfl rfl rfl rfl ?_
      refine X.dTakeS 9 rfl (by kernel_rfl) (by kernel_rfl) (by kernel_rfl) rfl rfl rfl rfl ?_
      refine X.dSkip (i := 10) (by kernel_rfl) rfl rfl rfl rfl rfl ?_
      refine X.dSkip (i := 11) (by kernel_rfl) rfl rfl rfl rfl rfl ?_
      refine X.dSkip (i := 12) (by kernel_rfl) rfl rfl rfl rfl rfl ?_
      refine X.dSkip (i := 13) (by kernel_rfl) rfl rfl rfl rfl rfl ?_
      refine X.dSkip (i := 14) (by kernel_rfl) rfl rfl rfl rfl rfl ?_
      refine X.dTake 15 rfl (by kernel_rfl) (by kernel_rfl) (by kernel_rfl) (X.dwN rfl) (fun w' hk' => X.pickF (v := .bool false) rfl rfl) ?_
      refine X.dEnd (by kernel_rfl) ?_
      refine X.condF rfl ?_
      refine X.exit rfl ?_
      refine X.seq ?_
      refine X.regionD (fun _ => False) 18 (by kernel_rfl) (by kernel_rfl) (fun w7 hk7 hz7 => ?_)
      refine X.dTake 0 rfl (by kernel_rfl) (by kernel_rfl) (by kernel_rfl) (X.dwN rfl) (fun w' hk' => X.move (v := .int .i64 _) rfl) ?_
      refine X.dTake 1 rfl (by kernel_rfl) (by kernel_rfl) (by kernel_rfl) (X.dwN rfl) (fun w' hk' => X.move (v := .slice _ _ _) rfl) ?_
      refine X.dTake 2 rfl (by kernel_rfl) (by kernel_rfl) (by kernel_rfl) (X.dwN rfl) (fun w' hk' => X.lenSl Try.underlying24 rfl) ?_
      refine X.dTake 3 rfl (by kernel_rfl) (by kernel_rfl) (by kernel_rfl) (X.dwN rfl) (fun w' hk' => X.lss rfl rfl) ?_
      refine X.dTake 4 rfl (by kernel_rfl) (by kernel_rfl) (by kernel_rfl) (X.dwN rfl) (fun w' hk' => X.move (v := .bool _) rfl) ?_
      refine X.dTake 16 rfl (by kernel_rfl) (by kernel_rfl) (by kernel_rfl) (X.dwN rfl) (fun w' hk' => X.move (v := .bool _) rfl) ?_
      refine X.dFork 38 rfl (fun h38 => ?_) (fun h38 => ?_)
      · exact absurd (of_decide_eq_true h38) (by omega)
      · 
        refine X.dTakeS 5 rfl (by kernel_rfl) (by kernel_rfl) (by kernel_rfl) rfl rfl rfl rfl ?_
        refine X.dTakeS 6 rfl (by kernel_rfl) (by kernel_rfl) (by kernel_rfl) rfl rfl rfl rfl ?_
        refine X.dTakeS 7 rfl (by kernel_rfl) (by kernel_rfl) (by kernel_rfl) rfl rfl rfl rfl ?_
        refine X.dTakeS 8 rfl (by kernel_rfl) (by kernel_rfl) (by kernel_rfl) rfl rfl rfl rfl ?_
        refine X.dTakeS 9 rfl (by kernel_rfl) (by kernel_rfl) (by kernel_rfl) rfl rfl rfl rfl ?_
        refine X.dSkip (i := 10) (by kernel_rfl) rfl rfl rfl rfl rfl ?_
        refine X.dSkip (i := 11) (by kernel_rfl) rfl rfl rfl rfl rfl ?_
        refine X.dSkip (i := 12) (by kernel_rfl) rfl rfl rfl rfl rfl ?_
        refine X.dSkip (i := 13) (by kernel_rfl) rfl rfl rfl rfl rfl ?_
        refine X.dSkip (i := 14) (by kernel_rfl) rfl rfl rfl rfl rfl ?_
        refine X.dTake 15 rfl (by kernel_rfl) (by kernel_rfl) (by kernel_rfl) (X.dwN rfl) (fun w' hk' => X.pickF (v := .bool false) rfl rfl) ?_
        refine X.dTake 17 rfl (by kernel_rfl) (by kernel_rfl) (by kernel_rfl) (X.dwN rfl) (fun w' hk' => X.eqB Try.underlying4 rfl rfl) ?_
        refine X.dEnd (by kernel_rfl) ?_
        refine X.condB rfl (fun hc2 => ?_) (fun hc2 => ?_)
        · have hq : hasT x (l1.drop j0) = t := by
            rw [hhas]
            simpa using hc2
          refine X.region ?_
          refine X.opw X.wN rfl (X.move rfl) ?_
          refine X.opw X.wN rfl (X.move (v := .slice _ _ _) rfl) ?_
          refine X.opw X.wN rfl (X.move (v := .int .i64 _) rfl) ?_
          refine X.opw X.wN rfl (X.idxS (hs0.keep ((hkm.trans hk1).trans hk7)) Try.underlying24 Try.sizeOf29 rfl rfl ⟨by omega, by omega⟩) ?_
          refine X.opw X.wN rfl (X.loadSN Try.isAgg29 Try.sizeOf29 (hs0.keep ((hkm.trans hk1).trans hk7)) hx rfl (fun _ h => h.1) rfl) ?_
          refine X.opE X.wN rfl (X.litKF KTh_flat (K := KTh) (xs := [Operand.tmp 56]) (vs := [evT x]) (ys := [x]) Try.underlying24 Try.sizeOf29 Try.zeroValue29 rfl rfl rfl rfl rfl (repsT x)) ?_
          rintro _ w8 ⟨rfl, hs8, hB8, hk8, hz8⟩
          refine X.opE X.wN rfl (X.appE (K := KTh) (S := fun k => w.heap.size ≤ k) KTh_flat Try.underlying24 ETh rfl rfl ((hMo.keep hwm).keep ((hk1.trans hk7).trans hk8)) hs8 (by (try simp only [List.length_append, List.length_cons, List.length_nil, List.length_take, List.length_drop, List.length_map, List.length_range]); omega) (by intros; (try simp only [] at *); omega)) ?_
          rintro v9 w9 ⟨hM9, hx9⟩
          have hx9' := hx9.size
          refine X.opw X.wN rfl (X.assign rfl) ?_
          refine X.opsEnd ?_
          refine X.inBlock ?_
          refine X.region ?_
          refine X.opw X.wN rfl (X.move (v := .int .i64 _) rfl) ?_
          refine X.opw X.wN rfl (X.add rfl rfl (X.w_i64 (by omega))) ?_
          refine X.opw X.wN rfl (X.assign (v := .int .i64 _) rfl) ?_
          refine X.opsEnd ?_
          refine hback (i + 1, j, _, out ++ [x]) _ _ ⟨rfl, rfl, rfl, rfl, rfl, rfl, trivial⟩ ⟨by dsimp only; omega, hj, by dsimp only; rw [List.length_append]; simp only [List.length_cons, List.length_nil]; omega, by dsimp only; rw [← hh, held_at hx, if_pos hq, hski]; simp, hM9, ((((hkm.trans hk1).trans hk7).trans hk8).step hx9 (by intros; (try simp only [] at *); omega))⟩ (by dsimp only; omega)
        · have hq : ¬ hasT x (l1.drop j0) = t := by
            rw [hhas]
            simpa using hc2
          refine X.skip ?_
          refine X.inBlock ?_
          refine X.region ?_
          refine X.opw X.wN rfl (X.move (v := .int .i64 _) rfl) ?_
          refine X.opw X.wN rfl (X.add rfl rfl (X.w_i64 (by omega))) ?_
          refine X.opw X.wN rfl (X.assign (v := .int .i64 _) rfl) ?_
          refine X.opsEnd ?_
          refine hback (i + 1, j, _, out) _ _ ⟨rfl, rfl, rfl, rfl, rfl, rfl, trivial⟩ ⟨by dsimp only; omega, hj, by dsimp only; omega, by dsimp only; rw [← hh, held_at hx, if_neg hq, hski]; simp, ((hMo.keep hwm).keep (hk1.trans hk7)), ((hkm.trans hk1).trans hk7)⟩ (by dsimp only; omega)
  · refine X.opsEnd ?_
    refine X.condF rfl ?_
    refine X.exit rfl ?_
    refine X.seq ?_
    refine X.region ?_
    refine X.opw X.wN rfl (X.move rfl) ?_
    refine X.opw X.wN rfl (X.assign rfl) ?_
    refine X.opsEnd ?_
    refine X.ret1 Try.func30 Try.results30 rfl ?_
    exact ⟨by rw [List.drop_of_length_le (show l0.length ≤ i by omega)] at hh; rw [show out = heldL t l0 l1 by rw [← hh]; simp [heldL]] at hMo; exact hMo.keep (Keep.refl _), hk⟩
end Go.Proofs.Ytgfficbkajcdpaa
