/- Cursors that are made of a step. -/
import Derived.Test.YtgfficbkajcdpaaXCur
import Derived.Test.YtgfficbkajcdpaaProg
namespace Go.Proofs.Ytgfficbkajcdpaa
open Go Go.Proofs.Ytgfficbkajcdpaa.X
set_option linter.unusedVariables false
set_option linter.unusedSimpArgs false
theorem ETh : ElemInfo Try.prog 29 2 16 := ElemInfo.of (z := .agg #[.int .i8 0, .int .i64 0]) (by kernel_rfl) rfl rfl rfl
theorem EI : ElemInfo Try.prog 3 1 8 := ElemInfo.of (z := .int .i64 0) (by kernel_rfl) rfl rfl rfl
-- f98 "(*pedigree/merge.made[pedigree/pedigreeref09.Thing]).Next" params [84] results [29, 4] -> [(ResultVar.
set_option maxHeartbeats 4000000 in
set_option maxRecDepth 100000 in
theorem next_over (fv : Value) (bm : Nat) (w : World) (hB : Blk w bm [fv, .bool true] 87) : Ret Try.prog 98 #[.pointer (some ⟨bm, 0, none⟩)] w fun r w' => r = hdV evT (0, 0) [] ∧ Keep w w' := by
  refine X.enter Try.func98 rfl Try.ntmps98 rfl ?_
  refine X.seq ?_
  refine X.region ?_
  refine X.opE X.wN rfl (X.allocE Try.zeroValue29 rfl) ?_
  rintro _ w1 ⟨rfl, hB1, hk1, hz1⟩
  refine X.opw X.wN rfl (X.assign rfl) ?_
  refine X.opsEnd ?_
  refine X.seq ?_
  refine X.seq ?_
  refine X.region ?_
  refine X.opw X.wN rfl (X.move rfl) ?_
  refine X.opw X.wN rfl (X.nilCk rfl) ?_
  refine X.opw X.wN rfl (X.fldB (j := 1) Try.underlying87 rfl rfl Try.sizeOf4 rfl) ?_
  refine X.opw X.wN rfl (X.load1B Try.isAgg4 (hB.keep hk1) rfl rfl) ?_
  refine X.opsEnd ?_
  refine X.condB rfl (fun hc => ?_) (fun hc => ?_)
  · refine X.seq ?_
    refine X.region ?_
    refine X.opw X.wN rfl (X.loadNB Try.isAgg29 Try.sizeOf29 hB1 rfl rfl rfl) ?_
    refine X.opE X.wN rfl (X.storeNE Try.sizeOf29 hB1 rfl rfl rfl rfl (fun u hu => by simp at hu; rcases hu with rfl | rfl <;> rfl)) ?_
    rintro _ w2 ⟨hB2, hx2, hz2⟩
    refine X.opw X.wN rfl (X.assign rfl) ?_
    refine X.opsEnd ?_
    refine X.ret_unw (X.unwR2 Try.func98 Try.results98 (X.ResOk.cell rfl (X.lvN Try.isAgg29 Try.sizeOf29 hB2 rfl)) (show X.ResOk _ _ _ (.tmp 3) (.bool _) from rfl) ?_)
    exact ⟨rfl, (hk1.step hx2 (by intros; (try simp only [] at *); omega))⟩
  · cases hc
-- f98 "(*pedigree/merge.made[pedigree/pedigreeref09.Thing]).Next" params [84] results [29, 4] -> [(ResultVar.
set_option maxHeartbeats 4000000 in
set_option maxRecDepth 100000 in
theorem next_step (fv : Value) (bm : Nat) (T : Nat → Prop) (hTm : ¬ T bm) (xs : List _) (w : World) (R : World → Prop) (hTb : ∀ k, T k → k < w.heap.size) (hB : Blk w bm [fv, .bool false] 87) (hcall : ∀ wa, Keep w wa → YC Try.prog fv [] wa fun r wc => r = hdV evT (0, 0) xs ∧ Ext T wa wc ∧ R wc) :
    Ret Try.prog 98 #[.pointer (some ⟨bm, 0, none⟩)] w fun r w' => r = hdV evT (0, 0) xs ∧ (∃ wc, R wc ∧ Ext T w wc ∧ Ext (fun k => k = bm ∨ w.heap.size ≤ k) wc w') ∧ Blk w' bm [fv, .bool xs.isEmpty] 87 := by
  have hbm := hB.lt
  refine X.enter Try.func98 rfl Try.ntmps98 rfl ?_
  refine X.seq ?_
  refine X.region ?_
  refine X.opE X.wN rfl (X.allocE Try.zeroValue29 rfl) ?_
  rintro _ w1 ⟨rfl, hB1, hk1, hz1⟩
  refine X.opw X.wN rfl (X.assign rfl) ?_
  refine X.opsEnd ?_
  refine X.seq ?_
  refine X.seq ?_
  refine X.region ?_
  refine X.opw X.wN rfl (X.move rfl) ?_
  refine X.opw X.wN rfl (X.nilCk rfl) ?_
  refine X.opw X.wN rfl (X.fldB (j := 1) Try.underlying87 rfl rfl Try.sizeOf4 rfl) ?_
  refine X.opw X.wN rfl (X.load1B Try.isAgg4 (hB.keep hk1) rfl rfl) ?_
  refine X.opsEnd ?_
  refine X.condB rfl (fun hc => ?_) (fun hc => ?_)
  · cases hc
  · refine X.skip ?_
    refine X.seq ?_
    refine X.seq ?_
    refine X.region ?_
    refine X.opw X.wN rfl (X.move rfl) ?_
    refine X.opw X.wN rfl (X.nilCk rfl) ?_
    refine X.opw X.wN rfl (X.fldB (j := 0) Try.underlying87 rfl rfl Try.sizeOf80 rfl) ?_
    refine X.opw X.wN rfl (X.load1B Try.isAgg80 (hB.keep hk1) rfl rfl) ?_
    refine X.opE X.wN rfl ((hcall _ hk1) _ _ _ _ _ _ _ _ _ rfl rfl) ?_
    rintro _ w2 ⟨rfl, hx2, hR2⟩
    have hx2' := hx2.size
    refine X.opw X.wN rfl (X.move rfl) ?_
    refine X.opw X.wN rfl (X.extr rfl rfl) ?_
    refine X.opw X.wN rfl (X.extr rfl rfl) ?_
    refine X.opE X.wN rfl (X.storeNE Try.sizeOf29 (hB1.ext hx2 (fun h => by have := hTb _ h; omega)) rfl rfl rfl rfl (fun u hu => by simp at hu; rcases hu with rfl | rfl <;> rfl)) ?_
    rintro _ w3 ⟨hB3, hx3, hz3⟩
    refine X.opw X.wN rfl (X.assign (v := .bool _) rfl) ?_
    refine X.opsEnd ?_
    refine X.seq ?_
    refine X.region ?_
    refine X.opw X.wN rfl (X.move (v := .bool _) rfl) ?_
    refine X.opw X.wN rfl (X.not_ rfl) ?_
    refine X.opsEnd ?_
    refine X.condB rfl (fun hc2 => ?_) (fun hc2 => ?_)
    · refine X.seq ?_
      refine X.region ?_
      refine X.opE X.wN rfl (X.allocE Try.zeroValue29 rfl) ?_
      rintro _ w4 ⟨rfl, hB4, hk4, hz4⟩
      refine X.opsEnd ?_
      refine X.regionD (fun k => k = bm) 5 (by kernel_rfl) (by kernel_rfl) (fun w5 hk5 hz5 => ?_)
      refine X.dTake 0 rfl (by kernel_rfl) (by kernel_rfl) (by kernel_rfl) (X.dwN rfl) (fun w' hk' => X.move rfl) ?_
      refine X.dTake 1 rfl (by kernel_rfl) (by kernel_rfl) (by kernel_rfl) (X.dwN rfl) (fun w' hk' => X.loadNB Try.isAgg29 Try.sizeOf29 ((hB4.keep hk5).ext hk' (by intros; (try simp only []); omega)) rfl rfl rfl) ?_
      refine X.dTake 2 rfl (by kernel_rfl) (by kernel_rfl) (by kernel_rfl) (X.dwN rfl) (fun w' hk' => X.nilCk rfl) ?_
      refine X.dTake 3 rfl (by kernel_rfl) (by kernel_rfl) (by kernel_rfl) (X.dwN rfl) (fun w' hk' => X.fldB (j := 1) Try.underlying87 rfl rfl Try.sizeOf4 rfl) ?_
      refine X.dE (i := 4) (by kernel_rfl) rfl (X.dwN rfl) (X.storeE Try.sizeOf4 ((((hB.keep hk1).ext hx2 hTm).ext hx3 (by intros; (try simp only []); omega)).keep (hk4.trans hk5)) rfl rfl rfl rfl) (by rintro _ w6 ⟨hB6, hx6, hz6⟩ _; exact hx6) ?_
      rintro _ w6 ⟨hB6, hx6, hz6⟩
      refine X.dE (i := 5) (by kernel_rfl) rfl (X.dwN rfl) (X.storeNE Try.sizeOf29 ((hB3.keep (hk4.trans hk5)).ext hx6 (by intros; (try simp only []); omega)) rfl rfl rfl rfl (fun u hu => by simp at hu; rcases hu with rfl | rfl <;> rfl)) (fun _ _ _ h => absurd h (by decide)) ?_
      rintro _ w7 ⟨hB7, hx7, hz7⟩
      refine X.dEnd (by kernel_rfl) ?_
      refine X.seq ?_
      refine X.region ?_
      refine X.opw X.wN rfl (X.loadNB Try.isAgg29 Try.sizeOf29 hB7 rfl rfl rfl) ?_
      refine X.opw X.wN rfl (X.move (v := .bool _) rfl) ?_
      refine X.opE X.wN rfl (X.storeNE Try.sizeOf29 hB7 rfl rfl rfl rfl (fun u hu => by simp at hu; rcases hu with rfl | rfl <;> rfl)) ?_
      rintro _ w8 ⟨hB8, hx8, hz8⟩
      refine X.opw X.wN rfl (X.assign (v := .bool _) rfl) ?_
      refine X.opsEnd ?_
      refine X.ret_unw (X.unwR2 Try.func98 Try.results98 (X.ResOk.cell rfl (X.lvN Try.isAgg29 Try.sizeOf29 hB8 rfl)) (show X.ResOk _ _ _ (.tmp 3) (.bool _) from rfl) ?_)
      obtain rfl : xs = [] := by simpa using hc2
      exact ⟨rfl, ⟨_, hR2, (Ext.trans (U := T) hk1 hx2 (fun _ _ h => h.elim) (fun _ _ h => h)), (Ext.andThen (Ext.andThen (Ext.andThen (Ext.andThen (Ext.andThen (Ext.andThen (Ext.refl (fun k => k = bm ∨ w.heap.size ≤ k) _) hx3 (by intro k h1 h2; first | exact h2.elim | omega | (simp only [] at *; omega))) hk4 (by intro k h1 h2; first | exact h2.elim | omega | (simp only [] at *; omega))) hk5 (by intro k h1 h2; first | exact h2.elim | omega | (simp only [] at *; omega))) hx6 (by intro k h1 h2; first | exact h2.elim | omega | (simp only [] at *; omega))) hx7 (by intro k h1 h2; first | exact h2.elim | omega | (simp only [] at *; omega))) hx8 (by intro k h1 h2; first | exact h2.elim | omega | (simp only [] at *; omega)))⟩, ((hB6.ext hx7 (by intros; (try simp only []); omega)).ext hx8 (by intros; (try simp only []); omega))⟩
    · refine X.skip ?_
      refine X.seq ?_
      refine X.region ?_
      refine X.opw X.wN rfl (X.loadNB Try.isAgg29 Try.sizeOf29 hB3 rfl rfl rfl) ?_
      refine X.opw X.wN rfl (X.move (v := .bool _) rfl) ?_
      refine X.opE X.wN rfl (X.storeNE Try.sizeOf29 hB3 rfl rfl rfl rfl (fun u hu => by simp at hu; rcases hu with rfl | rfl <;> rfl)) ?_
      rintro _ w9 ⟨hB9, hx9, hz9⟩
      refine X.opw X.wN rfl (X.assign (v := .bool _) rfl) ?_
      refine X.opsEnd ?_
      refine X.ret_unw (X.unwR2 Try.func98 Try.results98 (X.ResOk.cell rfl (X.lvN Try.isAgg29 Try.sizeOf29 hB9 rfl)) (show X.ResOk _ _ _ (.tmp 3) (.bool _) from rfl) ?_)
      cases xs with
      | nil => simp at hc2
      | cons x xs => exact ⟨rfl, ⟨_, hR2, (Ext.trans (U := T) hk1 hx2 (fun _ _ h => h.elim) (fun _ _ h => h)), (Ext.andThen (Ext.andThen (Ext.refl (fun k => k = bm ∨ w.heap.size ≤ k) _) hx3 (by intro k h1 h2; first | exact h2.elim | omega | (simp only [] at *; omega))) hx9 (by intro k h1 h2; first | exact h2.elim | omega | (simp only [] at *; omega)))⟩, ((((hB.keep hk1).ext hx2 hTm).ext hx3 (by intros; (try simp only []); omega)).ext hx9 (by intros; (try simp only []); omega))⟩
end Go.Proofs.Ytgfficbkajcdpaa
