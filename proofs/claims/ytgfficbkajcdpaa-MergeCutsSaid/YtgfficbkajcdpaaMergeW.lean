/- Rest: a range over a function. -/
import Derived.Test.YtgfficbkajcdpaaMergeV
import Derived.Test.YtgfficbkajcdpaaProg
namespace Go.Proofs.Ytgfficbkajcdpaa
open Go Go.Proofs.Ytgfficbkajcdpaa.X
set_option linter.unusedVariables false
set_option linter.unusedSimpArgs false
-- f21 "pedigree/merge.Rest[pedigree/pedigreeref09.Thing]" params [33] results [24] -> [(ResultVar.tmp 2)] nfr
set_option maxHeartbeats 4000000 in
set_option maxRecDepth 100000 in
theorem Rest_c {B : Nat} {Tc : Nat → Prop} {p : Value} {xs : List TH} (w : World) (hC : Cur Try.prog evT (0, 0) NX B Tc p xs w) (hBw : B ≤ w.heap.size) (hTb : ∀ k, Tc k → k < w.heap.size) (hxl : xs.length ≤ 1000000) : Ret Try.prog 21 #[.iface 84 p] w fun v w' => Mine KTh 29 (fun k => w.heap.size ≤ k ∧ k < w'.heap.size) 0 0 w' v xs ∧ Ext Tc w w' := by
  refine X.enter Try.func21 rfl Try.ntmps21 rfl ?_
  refine X.seq ?_
  refine X.region ?_
  refine X.opw X.wN rfl (X.assign rfl) ?_
  refine X.opsEnd ?_
  refine X.seq ?_
  refine X.region ?_
  refine X.opE X.wN rfl (X.allocE Try.zeroValue24 rfl) ?_
  rintro _ w1 ⟨rfl, hB1, hk1, hz1⟩
  refine X.opsEnd ?_
  refine X.seq ?_
  refine X.seq ?_
  refine X.region ?_
  refine X.opw X.wN rfl (X.move rfl) ?_
  refine X.opE X.wN rfl (X.callE (All_c _ p) Try.call23 rfl rfl) ?_
  rintro _ w2 ⟨rfl, hB2, hk2, hz2⟩
  refine X.opsEnd ?_
  refine X.block ?_
  refine X.rangeFunc' (cap := [ptrV w1.heap.size]) (Q := fun w' => ∃ v, Blk w' w.heap.size [v] 24 ∧ Mine KTh 29 (fun k => w.heap.size ≤ k ∧ k ≠ w.heap.size ∧ k ≠ w1.heap.size ∧ k ≠ (w2.heap.size + 1) ∧ k ≠ w2.heap.size) 0 0 w' v xs ∧ w'.heap[w2.heap.size]? = some (.deferred (some [])) ∧ Ext Tc w w' ∧ w2.heap.size + 2 ≤ w'.heap.size) rfl Try.call52 rfl rfl (fun rec wq T0 hr1 hr2 hr3 hr4 hrT hr5 hr6 hr7 hrl hrd kq zq => ?_) ?_
  · refine (all1_c _ p w1.heap.size B Tc (fun k => w.heap.size ≤ k ∧ k ≠ w1.heap.size) (fun l1 w' => ∃ v out, out ++ l1 = xs ∧ Blk w' w.heap.size [v] 24 ∧ Mine KTh 29 (fun k => w.heap.size ≤ k ∧ k ≠ w.heap.size ∧ k ≠ w1.heap.size ∧ k ≠ (w2.heap.size + 1) ∧ k ≠ w2.heap.size) 0 0 w' v out ∧ w'.heap[(w2.heap.size + 1)]? = some (.loop rec) ∧ w'.heap[w2.heap.size]? = some (.deferred (some [])) ∧ w2.heap.size + 2 ≤ w'.heap.size) (fun _ _ => False) (xs := xs) wq (hB2.keep kq) ((hC.keep (hk1.trans hk2)).keep kq) (by omega) (fun k hk => by have := hTb k hk; omega) (fun h => by have := hTb _ h; omega) (by (try simp only []); omega) (fun k hk => ⟨by omega, fun h => by have := hTb k h; omega⟩) ⟨_, [], rfl, (hB1.keep hk2).keep kq, Mine.nil _ _ _ _ _ _, hrl, hrd, by omega⟩ ?_ ?_).mono ?_
    · rintro l1 wu wv ⟨v, out, h1, h2, h3, h4, h5, h6⟩ x
      have hxz := x.size
      exact ⟨v, out, h1, h2.ext x (fun h => by have := hTb _ h; omega), h3.ext x (by intro k h1 h2; omega) (fun k hk h => by have := hTb k h; omega), (x.keep _ (Array.getElem?_eq_some_iff.1 h4).1 (fun h => by have := hTb _ h; omega)).trans h4, (x.keep _ (Array.getElem?_eq_some_iff.1 h5).1 (fun h => by have := hTb _ h; omega)).trans h5, by omega⟩
    · rintro y ys wu ⟨v, out, h1, h2, h3, h4, h5, h6⟩
      have hol : out.length ≤ xs.length := by rw [← h1, List.length_append]; omega
      refine YC.round (r := rec) (N := 13) h4 (by rw [hr5]; rfl) (by rw [hr5, hr4, fold1]; exact hrT.put 7 _ (by decide)) ?_
      rw [hr3, hr6, hr7]
      refine X.region ?_
      refine X.opE X.wN rfl (X.allocE Try.zeroValue29 rfl) ?_
      rintro _ w3 ⟨rfl, hB3, hk3, hz3⟩
      refine X.opE X.wN rfl (X.storeNE Try.sizeOf29 hB3 rfl rfl rfl rfl (fun u hu => by simp at hu; rcases hu with rfl | rfl <;> rfl)) ?_
      rintro _ w4 ⟨hB4, hx4, hz4⟩
      refine X.opsEnd ?_
      refine X.beginRound' (r := rec) ((hx4.keep _ (by omega) (by (try simp only []); omega)).trans ((hk3.keep _ (by omega) id).trans h4)) hr1 (fun wb hLb hxb hzb => ?_)
      have hxb' := hxb.size
      refine X.block ?_
      refine X.region ?_
      refine X.opw X.wN rfl (X.load1B Try.isAgg24 ((h2.keep (hk3.step hx4 (by intros; (try simp only [] at *); omega))).ext hxb (by intros; (try simp only []); omega)) rfl rfl) ?_
      refine X.opw X.wN rfl (X.loadNB Try.isAgg29 Try.sizeOf29 (hB4.ext hxb (by intros; (try simp only []); omega)) rfl rfl rfl) ?_
      refine X.opE X.wN rfl (X.litKF KTh_flat (K := KTh) (xs := [Operand.tmp 9]) (vs := [evT y]) (ys := [y]) Try.underlying24 Try.sizeOf29 Try.zeroValue29 rfl rfl rfl rfl rfl (repsT y)) ?_
      rintro _ w5 ⟨rfl, hs5, hB5, hk5, hz5⟩
      refine X.opE X.wN rfl (X.appE (K := KTh) (S := fun k => w.heap.size ≤ k ∧ k ≠ w.heap.size ∧ k ≠ w1.heap.size ∧ k ≠ (w2.heap.size + 1) ∧ k ≠ w2.heap.size) KTh_flat Try.underlying24 ETh rfl rfl (((h3.keep (hk3.step hx4 (by intros; (try simp only [] at *); omega))).ext hxb (by intros; (try simp only []); omega) (by intros; (try simp only []); omega)).keep hk5) hs5 (by (try simp only [List.length_append, List.length_cons, List.length_nil, List.length_take, List.length_drop, List.length_map, List.length_range]); omega) (by intros; (try simp only [] at *); omega)) ?_
      rintro v6 w6 ⟨hM6, hx6⟩
      have hx6' := hx6.size
      have q7 := hM6.slF KTh_flat 0 (fun _ _ => Nat.zero_le _)
      obtain ⟨A7, c7, rfl, hc7, hs7⟩ := q7
      refine X.opE X.wN rfl (X.storeE Try.sizeOf24 ((((h2.keep (hk3.step hx4 (by intros; (try simp only [] at *); omega))).ext hxb (by intros; (try simp only []); omega)).keep hk5).ext hx6 (by intros; (try simp only []); omega)) rfl rfl rfl rfl) ?_
      rintro _ w8 ⟨hB8, hx8, hz8⟩
      refine X.opsEnd ?_
      refine X.inBlock ?_
      refine X.endRound' (r := rec) ((hx8.keep _ (by omega) (by (try simp only []); omega)).trans ((hx6.keep _ (by omega) (by (try simp only []); omega)).trans ((hk5.keep _ (by omega) id).trans hLb))) hr1 hr2 (fun we hLe hxe hze => ?_)
      exact ⟨true, rfl, (Ext.andThen (Ext.andThen (Ext.andThen (Ext.andThen (Ext.andThen (Ext.andThen (Ext.andThen (Ext.refl (fun k => w.heap.size ≤ k ∧ k ≠ w1.heap.size) _) hk3 (by intro k h1 h2; first | exact (h2 : False).elim | ((try simp only [] at *); omega))) hx4 (by intro k h1 h2; first | exact (h2 : False).elim | ((try simp only [] at *); omega))) hxb (by intro k h1 h2; first | exact (h2 : False).elim | ((try simp only [] at *); omega))) hk5 (by intro k h1 h2; first | exact (h2 : False).elim | ((try simp only [] at *); omega))) hx6 (by intro k h1 h2; first | exact (h2 : False).elim | ((try simp only [] at *); omega))) hx8 (by intro k h1 h2; first | exact (h2 : False).elim | ((try simp only [] at *); omega))) hxe (by intro k h1 h2; first | exact (h2 : False).elim | ((try simp only [] at *); omega))), fun _ => ⟨_, out ++ [y], by rw [← h1]; simp, (hB8.ext hxe (by intros; (try simp only []); omega)), ((hM6.ext hx8 (by intros; (try simp only []); omega) (by intros; (try simp only []); omega)).ext hxe (by intros; (try simp only []); omega) (by intros; (try simp only []); omega)), hLe, ((hxe.keep _ (by omega) (by (try simp only []); omega)).trans ((hx8.keep _ (by omega) (by (try simp only []); omega)).trans ((hx6.keep _ (by omega) (by (try simp only []); omega)).trans ((hk5.keep _ (by omega) id).trans ((hxb.keep _ (by omega) (by (try simp only []); omega)).trans ((hx4.keep _ (by omega) (by (try simp only []); omega)).trans ((hk3.keep _ (by omega) id).trans h5))))))), by omega⟩, fun h => by cases h⟩
    · rintro v wz ⟨_, ⟨ys, _, ⟨rfl, v', out, h1, h2, h3, h4, h5, h6⟩ | h⟩, hxq⟩
      · rw [List.append_nil] at h1
        subst h1
        exact ⟨⟨rec, h4, by rw [hr1]; simp, hr2⟩, v', h2, h3, h5, Ext.andThen (Ext.andThen (show Ext Tc w _ from ((hk1.trans hk2)).mono (fun _ _ h => h.elim)) kq (fun _ _ h => h.elim)) hxq (fun k h1 h2 => h2.elim id (fun h => by omega)), h6⟩
      · exact h.elim
  · rintro wz we ⟨v, h2, h3, h5, hxq, h6⟩ hxe hze
    obtain ⟨hdf, _⟩ := Array.getElem?_eq_some_iff.1 h5
    refine X.inBlock ?_
    refine X.seq ?_
    refine X.region ?_
    refine X.opw X.wN rfl (X.load1B Try.isAgg24 (h2.ext hxe (by intros; (try simp only []); omega)) rfl rfl) ?_
    refine X.opw X.wN rfl (X.assign rfl) ?_
    refine X.opsEnd ?_
    refine X.ret_unw ?_
    refine X.collected' (by simp) ((hxe.keep _ (by omega) (by (try simp only []); omega)).trans h5) (fun wf hxf hzf => ?_)
    refine X.unwT1 Try.func21 Try.results21 rfl ?_
    exact ⟨(((h3.ext hxe (by intros; (try simp only []); omega) (by intros; (try simp only []); omega)).ext hxf (by intros; (try simp only []); omega) (by intros; (try simp only []); omega))).mono (fun k hk hs => ⟨hs.1, hk⟩), (Ext.andThen (Ext.andThen hxq hxe (by intro k h1 h2; first | exact (h2 : False).elim | (exfalso; (try simp only [] at *); omega))) hxf (by intro k h1 h2; first | exact (h2 : False).elim | (exfalso; (try simp only [] at *); omega)))⟩
end Go.Proofs.Ytgfficbkajcdpaa
