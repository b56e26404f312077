/- First, and what it leaves. -/
import Derived.Test.YtgfficbkajcdpaaMergeZ
import Derived.Test.YtgfficbkajcdpaaXCurQ
import Derived.Test.YtgfficbkajcdpaaProg
namespace Go.Proofs.Ytgfficbkajcdpaa
open Go Go.Proofs.Ytgfficbkajcdpaa.X
set_option linter.unusedVariables false
set_option linter.unusedSimpArgs false
-- f56 "pedigree/merge.First[pedigree/pedigreeref09.Thing]$1" params [] results [29, 4] -> [(ResultVar.cell 2 
set_option maxHeartbeats 4000000 in
set_option maxRecDepth 100000 in
theorem First1_c (k : Int) {B c3 c2 : Nat} {Tc : Nat → Prop} {ys : List TH} {p : Value} (w : World) (h2 : Blk w c2 [.int .i64 k] 3) (h3 : Blk w c3 [.iface 84 p] 33) (hC : Cur Try.prog evT (0, 0) NX B Tc p ys w) (hk : k ≤ 9223372036854775807) (hBs : B ≤ w.heap.size) (hBc : B ≤ c2) (hsep : ∀ k, Tc k → k ≠ c3 ∧ k ≠ c2 ∧ k < w.heap.size) (hne : c2 ≠ c3) :
    Ret Try.prog 56 #[.pointer (some ⟨c2, 0, none⟩), .pointer (some ⟨c3, 0, none⟩)] w fun r w' => r = hdV evT (0, 0) (ys.take k.toNat) ∧ Ext (fun k => Tc k ∨ k = c2) w w' ∧ (ys.take k.toNat ≠ [] → Blk w' c2 [.int .i64 (k - 1)] 3 ∧ Blk w' c3 [.iface 84 p] 33 ∧ Cur Try.prog evT (0, 0) NX B Tc p ys.tail w') ∧ (ys.take k.toNat = [] → Cur Try.prog evT (0, 0) NX B Tc p (ys.drop k.toNat) w') := by
  have h3l := h3.lt
  have h2l := h2.lt
  refine X.enter Try.func56 rfl Try.ntmps56 rfl ?_
  refine X.seq ?_
  refine X.region ?_
  refine X.opE X.wN rfl (X.allocE Try.zeroValue29 rfl) ?_
  rintro _ w1 ⟨rfl, hB1, hk1, hz1⟩
  refine X.opw X.wN rfl (X.assign rfl) ?_
  refine X.opsEnd ?_
  refine X.seq ?_
  refine X.seq ?_
  refine X.region ?_
  refine X.opw X.wN rfl (X.load1B Try.isAgg3 (h2.keep hk1) rfl rfl) ?_
  refine X.opP X.wN rfl rfl (X.lss rfl rfl) (fun h5 => ?_) (fun h5 => ?_)
  · refine X.opsEnd ?_
    refine X.condT rfl ?_
    refine X.seq ?_
    refine X.region ?_
    refine X.opw X.wN rfl (X.loadNB Try.isAgg29 Try.sizeOf29 hB1 rfl rfl rfl) ?_
    refine X.opE X.wN rfl (X.storeNE Try.sizeOf29 hB1 rfl rfl rfl rfl (fun u hu => by simp at hu; rcases hu with rfl | rfl <;> rfl)) ?_
    rintro _ w2 ⟨hB2, hx2, hz2⟩
    refine X.opw X.wN rfl (X.assign rfl) ?_
    refine X.opsEnd ?_
    refine X.ret_unw (X.unwR2 Try.func56 Try.results56 (X.ResOk.cell rfl (X.lvN Try.isAgg29 Try.sizeOf29 hB2 rfl)) (show X.ResOk _ _ _ (.tmp 3) (.bool _) from rfl) ?_)
    rw [show k.toNat = 0 by omega, List.take_zero, List.drop_zero]
    exact ⟨rfl, (Ext.andThen (Ext.andThen (Ext.refl (fun k => Tc k ∨ k = c2) _) hk1 (by intro k h1 h2; first | exact (h2 : False).elim | exact .inl h2 | exact .inr h2 | exact h2 | (exfalso; (try simp only [] at *); omega))) hx2 (by intro k h1 h2; first | exact (h2 : False).elim | exact .inl h2 | exact .inr h2 | exact h2 | (exfalso; (try simp only [] at *); omega))), fun h => absurd rfl h, fun _ => (hC.keep (hk1.step hx2 (by intros; (try simp only [] at *); omega)))⟩
  · refine X.opsEnd ?_
    refine X.condF rfl ?_
    refine X.skip ?_
    refine X.seq ?_
    refine X.region ?_
    refine X.opw X.wN rfl (X.load1B Try.isAgg3 (h2.keep hk1) rfl rfl) ?_
    refine X.opw X.wN rfl (X.sub (c := k - 1) rfl rfl (X.w_i64 (by omega))) ?_
    refine X.opE X.wN rfl (X.storeE Try.sizeOf3 (h2.keep hk1) rfl rfl rfl rfl) ?_
    rintro _ w3 ⟨hB3, hx3, hz3⟩
    refine X.opsEnd ?_
    refine X.seq ?_
    refine X.region ?_
    refine X.opw X.wN rfl (X.load1B Try.isAgg33 ((h3.keep hk1).ext hx3 (by first | (intros; (try simp only []); omega) | (intro h; have := hsep _ h; omega))) rfl rfl) ?_
    refine X.opE X.wN rfl (X.invokeE rfl (next_m _) ((hC.keep hk1).ext hx3 (by intro k hk hk2; refine ⟨?_, fun ht => ?_⟩ <;> ((try simp only [] at *); first | omega | (have := hsep k ht; omega)))).next Try.call98) ?_
    rintro _ w4 ⟨rfl, hx4, hC4⟩
    have hx4' := hx4.size
    refine X.opw X.wN rfl (X.extr rfl rfl) ?_
    refine X.opw X.wN rfl (X.extr rfl rfl) ?_
    refine X.opE X.wN rfl (X.storeNE Try.sizeOf29 ((hB1.ext hx3 (by first | (intros; (try simp only []); omega) | (intro h; have := hsep _ h; omega))).ext hx4 (by intro h; have := hsep _ h; omega)) rfl rfl rfl rfl (fun u hu => by simp at hu; rcases hu with rfl | rfl <;> rfl)) ?_
    rintro _ w5 ⟨hB5, hx5, hz5⟩
    refine X.opw X.wN rfl (X.assign (v := .bool _) rfl) ?_
    refine X.opsEnd ?_
    refine X.ret_unw (X.unwR2 Try.func56 Try.results56 (X.ResOk.cell rfl (X.lvN Try.isAgg29 Try.sizeOf29 hB5 rfl)) (show X.ResOk _ _ _ (.tmp 3) (.bool _) from rfl) ?_)
    cases ys with
    | nil => rw [List.take_nil, List.drop_nil]; exact ⟨rfl, (Ext.andThen (Ext.andThen (Ext.andThen (Ext.andThen (Ext.refl (fun k => Tc k ∨ k = c2) _) hk1 (by intro k h1 h2; first | exact (h2 : False).elim | exact .inl h2 | exact .inr h2 | exact h2 | (exfalso; (try simp only [] at *); omega))) hx3 (by intro k h1 h2; first | exact (h2 : False).elim | exact .inl h2 | exact .inr h2 | exact h2 | (exfalso; (try simp only [] at *); omega))) hx4 (by intro k h1 h2; first | exact (h2 : False).elim | exact .inl h2 | exact .inr h2 | exact h2 | (exfalso; (try simp only [] at *); omega))) hx5 (by intro k h1 h2; first | exact (h2 : False).elim | exact .inl h2 | exact .inr h2 | exact h2 | (exfalso; (try simp only [] at *); omega))), fun h => absurd rfl h, fun _ => (hC4.ext hx5 (by intro k hk hk2; refine ⟨?_, fun ht => ?_⟩ <;> ((try simp only [] at *); first | omega | (have := hsep k ht; omega))))⟩
    | cons y ys =>
      rw [show k.toNat = (k - 1).toNat + 1 by omega, List.take_succ_cons, List.drop_succ_cons]
      exact ⟨rfl, (Ext.andThen (Ext.andThen (Ext.andThen (Ext.andThen (Ext.refl (fun k => Tc k ∨ k = c2) _) hk1 (by intro k h1 h2; first | exact (h2 : False).elim | exact .inl h2 | exact .inr h2 | exact h2 | (exfalso; (try simp only [] at *); omega))) hx3 (by intro k h1 h2; first | exact (h2 : False).elim | exact .inl h2 | exact .inr h2 | exact h2 | (exfalso; (try simp only [] at *); omega))) hx4 (by intro k h1 h2; first | exact (h2 : False).elim | exact .inl h2 | exact .inr h2 | exact h2 | (exfalso; (try simp only [] at *); omega))) hx5 (by intro k h1 h2; first | exact (h2 : False).elim | exact .inl h2 | exact .inr h2 | exact h2 | (exfalso; (try simp only [] at *); omega))), fun _ => ⟨((hB3.ext hx4 (by intro h; have := hsep _ h; omega)).ext hx5 (by first | (intros; (try simp only []); omega) | (intro h; have := hsep _ h; omega))), ((((h3.keep hk1).ext hx3 (by first | (intros; (try simp only []); omega) | (intro h; have := hsep _ h; omega))).ext hx4 (by intro h; have := hsep _ h; omega)).ext hx5 (by first | (intros; (try simp only []); omega) | (intro h; have := hsep _ h; omega))), (hC4.ext hx5 (by intro k hk hk2; refine ⟨?_, fun ht => ?_⟩ <;> ((try simp only [] at *); first | omega | (have := hsep k ht; omega))))⟩, fun h => by cases h⟩
theorem first_stp (k0 : Int) {B a b c3 c2 : Nat} {Tc : Nat → Prop} {ys0 : List TH} {p : Value} {w : World} (h2 : Blk w c2 [.int .i64 k0] 3) (h3 : Blk w c3 [.iface 84 p] 33) (hC : Cur Try.prog evT (0, 0) NX B Tc p ys0 w) (hk0 : k0 ≤ 9223372036854775807) (hBa : B ≤ a) (hbw : b ≤ w.heap.size) (hT : ∀ k, Tc k → a ≤ k ∧ k < b) (g3 : a ≤ c3 ∧ c3 < b) (g2 : a ≤ c2 ∧ c2 < b) (hsep : ∀ k, Tc k → k ≠ c3 ∧ k ≠ c2) (hne : c2 ≠ c3) :
    StpQ Try.prog evT (0, 0) B (fun k => a ≤ k ∧ k < b) (.func (.func 56) #[] #[ptrV c2, ptrV c3]) (ys0.take k0.toNat) w (fun w => Cur Try.prog evT (0, 0) NX B Tc p (ys0.drop k0.toNat) w) := by
  refine ⟨fun l w => ∃ k ys, l = ys.take k.toNat ∧ ys.drop k.toNat = ys0.drop k0.toNat ∧ k ≤ 9223372036854775807 ∧ b ≤ w.heap.size ∧ Blk w c2 [.int .i64 k] 3 ∧ Blk w c3 [.iface 84 p] 33 ∧ Cur Try.prog evT (0, 0) NX B Tc p ys w, ⟨k0, ys0, rfl, rfl, hk0, hbw, h2, h3, hC⟩, ?_, ?_, ?_⟩
  · rintro l w w' ⟨k, ys, q1, q2, q3, q4, q5, q6, q7⟩ ha
    have hz := ha.size
    exact ⟨k, ys, q1, q2, q3, by omega, ha.blk q5 g2, ha.blk q6 g3, q7.agree (ha.sub hT)⟩
  · rintro l w ⟨k, ys, rfl, q2, q3, q4, q5, q6, q7⟩
    refine YC.of_ret (args := []) (cap := [_, _]) ((First1_c k w q5 q6 q7 q3 (by omega) (by omega) (fun k hk => by have := hsep k hk; have := hT k hk; omega) hne).mono ?_) Try.call56
    rintro r w' ⟨rfl, hx, hn1, hn2⟩
    have hz := hx.size
    refine ⟨rfl, hx.mono fun k _ hk => by rcases hk with hk | hk; exact hT k hk; exact hk ▸ g2, fun hne' => ?_, fun e => q2 ▸ hn2 e⟩
    obtain ⟨e1, e2, e3⟩ := hn1 hne'
    cases ys with
    | nil => simp at hne'
    | cons y ys =>
      have hk1 : k.toNat = (k - 1).toNat + 1 := by
        have : k.toNat ≠ 0 := fun h => by rw [h] at hne'; simp at hne'
        omega
      exact ⟨k - 1, ys, by rw [hk1, List.take_succ_cons]; rfl, by rw [← q2, hk1, List.drop_succ_cons], by omega, by omega, e1, e2, e3⟩
  · rintro w ⟨k, ys, q1, q2, q3, q4, q5, q6, q7⟩
    have : ys.drop k.toNat = ys := by
      cases ys with
      | nil => rw [List.drop_nil]
      | cons y ys =>
        by_cases h : k.toNat = 0
        · rw [h]; rfl
        · rw [show k.toNat = (k.toNat - 1) + 1 by omega, List.take_succ_cons] at q1; cases q1
    rw [← q2, this]; exact q7
-- f34 "pedigree/merge.First[pedigree/pedigreeref09.Thing]" params [3, 33] results [33] -> [(ResultVar.tmp 4)]
set_option maxHeartbeats 4000000 in
set_option maxRecDepth 100000 in
theorem First_c (k : Int) {B a0 b0 : Nat} {p : Value} {l0 : List TH} (w : World) (h0 : CV B (fun k => a0 ≤ k ∧ k < b0) (.iface 84 p) l0 w) (hk : k ≤ 9223372036854775807) (hB : B ≤ a0) (hab : a0 ≤ b0) (hb : b0 ≤ w.heap.size) :
    Ret Try.prog 34 #[.int .i64 k, .iface 84 p] w fun r w' => ∃ bm, r = .iface 84 (ptrV bm) ∧ CurQ Try.prog evT (0, 0) NX B (fun k => a0 ≤ k ∧ k < w'.heap.size) (ptrV bm) (l0.take k.toNat) w' (fun w => Cur Try.prog evT (0, 0) NX B (fun k => a0 ≤ k ∧ k < b0) p (l0.drop k.toNat) w) ∧ Keep w w' := by
  refine X.enter Try.func34 rfl Try.ntmps34 rfl ?_
  refine X.seq ?_
  refine X.region ?_
  refine X.opE X.wN rfl (X.boxE rfl rfl) ?_
  rintro _ w1 ⟨rfl, hB1, hk1, hz1⟩
  refine X.opE X.wN rfl (X.boxE rfl rfl) ?_
  rintro _ w2 ⟨rfl, hB2, hk2, hz2⟩
  refine X.opw X.wN rfl (X.assign rfl) ?_
  refine X.opsEnd ?_
  refine X.seq ?_
  refine X.seq ?_
  refine X.region ?_
  refine X.opw X.wN rfl (X.load1B Try.isAgg33 hB2 rfl rfl) ?_
  refine X.opw X.wN rfl (X.eqIf1 Try.underlying33 rfl rfl) ?_
  refine X.opsEnd ?_
  refine X.condF rfl ?_
  refine X.skip ?_
  refine X.seq ?_
  refine X.region ?_
  refine X.opw X.wN rfl (X.mkFunc rfl) ?_
  refine X.opw X.wN rfl (X.buildB (vs := [(0, .func (.func 56) #[] #[ptrV (w.heap.size), ptrV (w1.heap.size)])]) (cs := #[.func (.func 56) #[] #[ptrV (w.heap.size), ptrV (w1.heap.size)], .bool false]) rfl (by kernel_rfl)) ?_
  refine X.opE X.wN rfl (X.boxE rfl rfl) ?_
  rintro _ w3 ⟨rfl, hB3, hk3, hz3⟩
  refine X.opw X.wN rfl (X.mkIface Try.underlying84 rfl rfl) ?_
  refine X.opw X.wN rfl (X.assign rfl) ?_
  refine X.opsEnd ?_
  refine X.ret1 Try.func34 Try.results34 rfl ?_
  refine ⟨w2.heap.size, rfl, ?_, ((hk1.trans hk2).trans hk3)⟩
  refine CurQ.wide (CurQ.made (first_stp (a := a0) (b := w2.heap.size) k (Tc := fun k => a0 ≤ k ∧ k < b0) (hB1.keep (hk2.trans hk3)) (hB2.keep hk3) (CV.cur (h0.keep ((hk1.trans hk2).trans hk3))) hk hB (by omega) (fun k hk => by omega) (by omega) (by omega) (fun k hk => by (try simp only [] at *); omega) (by omega)) (fun w w' h ha => h.agree (ha.sub fun k hk => by omega)) hB3 (by omega) (by (try simp only []); omega) (fun k hk => by omega) (fun w h => next_over _ _ w h) (fun xs w R h1 h2 h3 => next_step _ _ _ (by (try simp only []); omega) xs w R h1 h2 h3)) (fun k hk => ?_)
  rcases hk with hk | hk <;> omega
end Go.Proofs.Ytgfficbkajcdpaa
