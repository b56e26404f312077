/- What one cursor holds of another: its step. -/
import Derived.Test.YtgfficbkajcdpaaMergeK
import Derived.Test.YtgfficbkajcdpaaProg
namespace Go.Proofs.Ytgfficbkajcdpaa
open Go Go.Proofs.Ytgfficbkajcdpaa.X
set_option linter.unusedVariables false
set_option linter.unusedSimpArgs false
theorem Hd.keep {B : Nat} {T : Nat → Prop} {hb : Nat} {ys : List TH} {w w' : World} (h : Hd B T hb ys w) (k : Keep w w') : Hd B T hb ys w' := h.ext k fun _ _ h => h.elim
theorem heldL_no {t : Bool} {x : TH} {xs ys : List TH} (h : ¬ hasT x ys = t) : heldL t (x :: xs) ys = heldL t xs (skipT x ys) := by rw [heldL, if_neg h]
theorem heldL_yes {t : Bool} {x : TH} {xs ys : List TH} (h : hasT x ys = t) : heldL t (x :: xs) ys = x :: heldL t xs (skipT x ys) := by rw [heldL, if_pos h]
-- f67 "pedigree/merge.held[pedigree/pedigreeref09.Thing]$2" params [] results [29, 4] -> [(ResultVar.cell 3 2
set_option maxHeartbeats 4000000 in
set_option maxRecDepth 100000 in
theorem held2_c (t : Bool) {B hb c5 c10 c7 c9 c4 : Nat} {Ta Tb : Nat → Prop} {xs0 ys0 : List TH} {cv p : Value} (w : World) (hbl : Blk w c5 [.iface 84 p] 33 ∧ Blk w c10 [(.func (.func 66) #[] #[ptrV c9, ptrV c4])] 46 ∧ Blk w c7 [.bool t] 4 ∧ Blk w c9 [ptrV hb] 85 ∧ Blk w c4 [cv] 35) (hCa : Cur Try.prog evT (0, 0) NX B Ta p xs0 w) (hd : Hd B Tb hb ys0 w) (hBs : B ≤ w.heap.size) (hBh : B ≤ hb) (hTh : ¬ Tb hb) (hTa : ∀ k, Ta k → k < w.heap.size) (hTb : ∀ k, Tb k → k < w.heap.size)
    (hsepA : ∀ k, Ta k → k ≠ c5 ∧ k ≠ c10 ∧ k ≠ c7 ∧ k ≠ c9 ∧ k ≠ c4 ∧ k < w.heap.size) (hsepB : ∀ k, (Tb k ∨ k = hb) → k ≠ c5 ∧ k ≠ c10 ∧ k ≠ c7 ∧ k ≠ c9 ∧ k ≠ c4 ∧ k < w.heap.size) (hdA : ∀ k, Ta k → B ≤ k ∧ ¬ Tb k ∧ k ≠ hb) (hdB : ∀ k, (Tb k ∨ k = hb) → B ≤ k ∧ ¬ Ta k) (hcmp : CmpOk cv) :
    Ret Try.prog 67 #[.pointer (some ⟨c5, 0, none⟩), .pointer (some ⟨c10, 0, none⟩), .pointer (some ⟨c7, 0, none⟩)] w fun r w' => r = hdV evT (0, 0) (heldL t xs0 ys0) ∧ Ext (fun k => Ta k ∨ Tb k ∨ k = hb) w w' ∧ (heldL t xs0 ys0 ≠ [] → ∃ xs ys, (heldL t xs0 ys0).tail = heldL t xs ys ∧ Cur Try.prog evT (0, 0) NX B Ta p xs w' ∧ Hd B Tb hb ys w') := by
  obtain ⟨h5, h10, h7, h9, h4⟩ := hbl
  have h5l := h5.lt
  have h10l := h10.lt
  have h7l := h7.lt
  have h9l := h9.lt
  have h4l := h4.lt
  have hbl := (hsepB hb (.inr rfl)).2.2.2.2.2
  refine X.enter Try.func67 rfl Try.ntmps67 rfl ?_
  refine X.seq ?_
  refine X.region ?_
  refine X.opE X.wN rfl (X.allocE Try.zeroValue29 rfl) ?_
  rintro _ w1 ⟨rfl, hB1, hk1, hz1⟩
  refine X.opw X.wN rfl (X.assign rfl) ?_
  refine X.opsEnd ?_
  refine X.block ?_
  -- LOOP live: 0, 1, 2, 3=x
  refine X.loopL (σ := TH × List TH × List TH) (fun s => [(0, .pointer (some ⟨c5, 0, none⟩)), (1, .pointer (some ⟨c10, 0, none⟩)), (2, .pointer (some ⟨c7, 0, none⟩)), (3, .pointer (some ⟨w.heap.size, 0, none⟩))]) (fun s w' => heldL t s.2.1 s.2.2 = heldL t xs0 ys0 ∧ (Blk w' c5 [.iface 84 p] 33 ∧ Blk w' c10 [(.func (.func 66) #[] #[ptrV c9, ptrV c4])] 46 ∧ Blk w' c7 [.bool t] 4 ∧ Blk w' c9 [ptrV hb] 85 ∧ Blk w' c4 [cv] 35) ∧ Blk w' w.heap.size [.int .i8 s.1.1, .int .i64 s.1.2] 29 ∧ Cur Try.prog evT (0, 0) NX B Ta p s.2.1 w' ∧ Hd B Tb hb s.2.2 w' ∧ Ext (fun k => Ta k ∨ Tb k ∨ k = hb) w w' ∧ w.heap.size < w'.heap.size) (fun s => s.2.1.length) ((0, 0), xs0, ys0) ⟨rfl, rfl, rfl, rfl, trivial⟩ ⟨rfl, ⟨(h5.keep hk1), (h10.keep hk1), (h7.keep hk1), (h9.keep hk1), (h4.keep hk1)⟩, hB1, hCa.keep hk1, hd.ext hk1 (fun _ _ h => h.elim), hk1.mono (fun _ _ h => h.elim), by omega⟩ ?_
  rintro ⟨z, xs, ys⟩ b0 wl ⟨hhl, ⟨hBa, hBb, hBc, hBd, hBe⟩, hBz, hC, hHd, hE, hwl⟩ hback
  dsimp only
  simp only at hhl hBz hC hHd
  refine X.block ?_
  refine X.seq ?_
  refine X.region ?_
  refine X.opw X.wN rfl (X.load1B Try.isAgg33 hBa rfl rfl) ?_
  refine X.opE X.wN rfl (X.invokeE rfl (next_m _) hC.next Try.call98) ?_
  rintro _ w2 ⟨rfl, hx2, hC2⟩
  have hx2' := hx2.size
  refine X.opw X.wN rfl (X.move rfl) ?_
  refine X.opw X.wN rfl (X.extr rfl rfl) ?_
  refine X.opw X.wN rfl (X.extr rfl rfl) ?_
  refine X.opE X.wN rfl (X.storeNE Try.sizeOf29 (hBz.ext hx2 (by intro h; have := hsepA _ h; omega)) rfl rfl rfl rfl (fun u hu => by simp at hu; rcases hu with rfl | rfl <;> rfl)) ?_
  rintro _ w3 ⟨hB3, hx3, hz3⟩
  refine X.opw X.wN rfl (X.assign (v := .bool _) rfl) ?_
  refine X.opsEnd ?_
  refine X.seq ?_
  refine X.regionD (fun k => Tb k ∨ k = hb) 9 (by kernel_rfl) (by kernel_rfl) (fun w4 hk4 hz4 => ?_)
  refine X.dTake 0 rfl (by kernel_rfl) (by kernel_rfl) (by kernel_rfl) (X.dwN rfl) (fun w' hk' => X.move (v := .bool _) rfl) ?_
  refine X.dTake 1 rfl (by kernel_rfl) (by kernel_rfl) (by kernel_rfl) (X.dwN rfl) (fun w' hk' => X.not_ rfl) ?_
  refine X.dTake 2 rfl (by kernel_rfl) (by kernel_rfl) (by kernel_rfl) (X.dwN rfl) (fun w' hk' => X.move (v := .bool _) rfl) ?_
  refine X.dFork 12 rfl (fun h12 => ?_) (fun h12 => ?_)
  · obtain rfl : xs = [] := by simpa using h12
    refine X.dTakeS 3 rfl (by kernel_rfl) (by kernel_rfl) (by kernel_rfl) rfl rfl rfl rfl ?_
    refine X.dTakeS 4 rfl (by kernel_rfl) (by kernel_rfl) (by kernel_rfl) rfl rfl rfl rfl ?_
    refine X.dTakeS 5 rfl (by kernel_rfl) (by kernel_rfl) (by kernel_rfl) rfl rfl rfl rfl ?_
    refine X.dSkip (i := 6) (by kernel_rfl) rfl rfl rfl rfl rfl ?_
    refine X.dSkip (i := 7) (by kernel_rfl) rfl rfl rfl rfl rfl ?_
    refine X.dTake 8 rfl (by kernel_rfl) (by kernel_rfl) (by kernel_rfl) (X.dwN rfl) (fun w' hk' => X.pickT (v := .bool true) rfl rfl) ?_
    refine X.dEnd (by kernel_rfl) ?_
    refine X.condT rfl ?_
    refine X.seq ?_
    refine X.region ?_
    refine X.opw X.wN rfl (X.loadNB Try.isAgg29 Try.sizeOf29 (hB3.keep hk4) rfl rfl rfl) ?_
    refine X.opw X.wN rfl (X.move (v := .bool _) rfl) ?_
    refine X.opE X.wN rfl (X.storeNE Try.sizeOf29 (hB3.keep hk4) rfl rfl rfl rfl (fun u hu => by simp at hu; rcases hu with rfl | rfl <;> rfl)) ?_
    rintro _ w5 ⟨hB5, hx5, hz5⟩
    refine X.opw X.wN rfl (X.assign (v := .bool _) rfl) ?_
    refine X.opsEnd ?_
    refine X.ret_unw (X.unwR2 Try.func67 Try.results67 (X.ResOk.cell rfl (X.lvN Try.isAgg29 Try.sizeOf29 hB5 rfl)) (show X.ResOk _ _ _ (.tmp 4) (.bool _) from rfl) ?_)
    rw [← hhl]
    exact ⟨rfl, (Ext.andThen (Ext.andThen (Ext.andThen (Ext.andThen hE hx2 (by intro k h1 h2; first | exact (h2 : False).elim | exact .inl h2 | exact .inr h2 | (exfalso; (try simp only [] at *); omega))) hx3 (by intro k h1 h2; first | exact (h2 : False).elim | exact .inl h2 | exact .inr h2 | (exfalso; (try simp only [] at *); omega))) hk4 (by intro k h1 h2; first | exact (h2 : False).elim | exact .inl h2 | exact .inr h2 | (exfalso; (try simp only [] at *); omega))) hx5 (by intro k h1 h2; first | exact (h2 : False).elim | exact .inl h2 | exact .inr h2 | (exfalso; (try simp only [] at *); omega))), fun h => absurd rfl h⟩
  · obtain ⟨x, xs', rfl⟩ : ∃ x xs', xs = x :: xs' := by
      cases xs with
      | nil => simp at h12
      | cons x xs' => exact ⟨x, xs', rfl⟩
    refine X.dTake 3 rfl (by kernel_rfl) (by kernel_rfl) (by kernel_rfl) (X.dwG rfl rfl rfl) (fun w' hk' => X.load1B Try.isAgg46 ((((hBb.ext hx2 (by intro h; have := hsepA _ h; omega)).ext hx3 (by first | (intros; (try simp only []); omega) | (intro h; have := hsepB _ h; omega))).keep hk4).ext hk' (by first | (intros; (try simp only []); omega) | (intro h; have := hsepB _ h; omega))) rfl rfl) ?_
    refine X.dTake 4 rfl (by kernel_rfl) (by kernel_rfl) (by kernel_rfl) (X.dwG rfl rfl rfl) (fun w' hk' => X.loadNB Try.isAgg29 Try.sizeOf29 ((hB3.keep hk4).ext hk' (by first | (intros; (try simp only []); omega) | (intro h; have := hsepB _ h; omega))) rfl rfl rfl) ?_
    refine X.dTake 6 rfl (by kernel_rfl) (by kernel_rfl) (by kernel_rfl) (X.dwG rfl rfl rfl) (fun w' hk' => X.load1B Try.isAgg4 ((((hBc.ext hx2 (by intro h; have := hsepA _ h; omega)).ext hx3 (by first | (intros; (try simp only []); omega) | (intro h; have := hsepB _ h; omega))).keep hk4).ext hk' (by first | (intros; (try simp only []); omega) | (intro h; have := hsepB _ h; omega))) rfl rfl) ?_
    refine X.dE (i := 5) (by kernel_rfl) rfl (X.dwG rfl rfl rfl) ((YC.of_ret (args := [_]) (cap := [_, _]) (has_c x _ (((hBd.ext hx2 (by intro h; have := hsepA _ h; omega)).ext hx3 (by first | (intros; (try simp only []); omega) | (intro h; have := hsepB _ h; omega))).keep hk4) (((hBe.ext hx2 (by intro h; have := hsepA _ h; omega)).ext hx3 (by first | (intros; (try simp only []); omega) | (intro h; have := hsepB _ h; omega))).keep hk4) (((hHd.ext hx2 (fun k hk h => hdA k h)).ext hx3 (by intro k hk hk2; first | (refine ⟨?_, fun ht => ?_⟩ <;> ((try simp only [] at *); first | omega | (have := hTa k ht; omega) | (have := hTb k ht; omega))) | (refine ⟨?_, fun ht => ?_, ?_⟩ <;> ((try simp only [] at *); first | omega | (have := hTb k ht; omega))))).keep hk4) (by omega) hBh (by omega) hTh (fun k hk => by have := hTb k hk; omega) (fun k hk => by have := hsepB k hk; omega) hcmp) Try.call66) _ _ _ _ _ _ _ _ _ rfl rfl) (by rintro _ w6 ⟨rfl, hH6, hx6⟩ _; exact hx6) ?_
    rintro _ w6 ⟨rfl, hH6, hx6⟩
    have hx6' := hx6.size
    refine X.dTake 7 rfl (by kernel_rfl) (by kernel_rfl) (by kernel_rfl) (X.dwG rfl rfl rfl) (fun w' hk' => X.eqB Try.underlying4 rfl rfl) ?_
    refine X.dTake 8 rfl (by kernel_rfl) (by kernel_rfl) (by kernel_rfl) (X.dwN rfl) (fun w' hk' => X.pickF (v := .bool _) rfl rfl) ?_
    refine X.dEnd (by kernel_rfl) ?_
    refine X.condB rfl (fun hc => ?_) (fun hc => ?_)
    · have h18 : hasT x ys = t := by simpa using hc
      refine X.seq ?_
      refine X.region ?_
      refine X.opw X.wN rfl (X.loadNB Try.isAgg29 Try.sizeOf29 ((hB3.keep hk4).ext hx6 (by intro h; have := hsepB _ h; omega)) rfl rfl rfl) ?_
      refine X.opw X.wN rfl (X.move (v := .bool _) rfl) ?_
      refine X.opE X.wN rfl (X.storeNE Try.sizeOf29 ((hB3.keep hk4).ext hx6 (by intro h; have := hsepB _ h; omega)) rfl rfl rfl rfl (fun u hu => by simp at hu; rcases hu with rfl | rfl <;> rfl)) ?_
      rintro _ w7 ⟨hB7, hx7, hz7⟩
      refine X.opw X.wN rfl (X.assign (v := .bool _) rfl) ?_
      refine X.opsEnd ?_
      refine X.ret_unw (X.unwR2 Try.func67 Try.results67 (X.ResOk.cell rfl (X.lvN Try.isAgg29 Try.sizeOf29 hB7 rfl)) (show X.ResOk _ _ _ (.tmp 4) (.bool _) from rfl) ?_)
      rw [← hhl, heldL_yes h18]
      exact ⟨rfl, (Ext.andThen (Ext.andThen (Ext.andThen (Ext.andThen (Ext.andThen hE hx2 (by intro k h1 h2; first | exact (h2 : False).elim | exact .inl h2 | exact .inr h2 | (exfalso; (try simp only [] at *); omega))) hx3 (by intro k h1 h2; first | exact (h2 : False).elim | exact .inl h2 | exact .inr h2 | (exfalso; (try simp only [] at *); omega))) hk4 (by intro k h1 h2; first | exact (h2 : False).elim | exact .inl h2 | exact .inr h2 | (exfalso; (try simp only [] at *); omega))) hx6 (by intro k h1 h2; first | exact (h2 : False).elim | exact .inl h2 | exact .inr h2 | (exfalso; (try simp only [] at *); omega))) hx7 (by intro k h1 h2; first | exact (h2 : False).elim | exact .inl h2 | exact .inr h2 | (exfalso; (try simp only [] at *); omega))), fun _ => ⟨xs', _, rfl, ((((hC2.ext hx3 (by intro k hk hk2; first | (refine ⟨?_, fun ht => ?_⟩ <;> ((try simp only [] at *); first | omega | (have := hTa k ht; omega) | (have := hTb k ht; omega))) | (refine ⟨?_, fun ht => ?_, ?_⟩ <;> ((try simp only [] at *); first | omega | (have := hTb k ht; omega))))).keep hk4).ext hx6 (fun k hk h => hdB k h)).ext hx7 (by intro k hk hk2; first | (refine ⟨?_, fun ht => ?_⟩ <;> ((try simp only [] at *); first | omega | (have := hTa k ht; omega) | (have := hTb k ht; omega))) | (refine ⟨?_, fun ht => ?_, ?_⟩ <;> ((try simp only [] at *); first | omega | (have := hTb k ht; omega))))), (hH6.ext hx7 (by intro k hk hk2; first | (refine ⟨?_, fun ht => ?_⟩ <;> ((try simp only [] at *); first | omega | (have := hTa k ht; omega) | (have := hTb k ht; omega))) | (refine ⟨?_, fun ht => ?_, ?_⟩ <;> ((try simp only [] at *); first | omega | (have := hTb k ht; omega)))))⟩⟩
    · have h18 : ¬ hasT x ys = t := by simpa using hc
      refine X.skip ?_
      refine X.inBlock ?_
      refine hback (x, xs', skipT x ys) _ _ ⟨rfl, rfl, rfl, rfl, trivial⟩ ⟨(heldL_no h18).symm.trans hhl, ⟨((((hBa.ext hx2 (by intro h; have := hsepA _ h; omega)).ext hx3 (by first | (intros; (try simp only []); omega) | (intro h; have := hsepB _ h; omega))).keep hk4).ext hx6 (by intro h; have := hsepB _ h; omega)), ((((hBb.ext hx2 (by intro h; have := hsepA _ h; omega)).ext hx3 (by first | (intros; (try simp only []); omega) | (intro h; have := hsepB _ h; omega))).keep hk4).ext hx6 (by intro h; have := hsepB _ h; omega)), ((((hBc.ext hx2 (by intro h; have := hsepA _ h; omega)).ext hx3 (by first | (intros; (try simp only []); omega) | (intro h; have := hsepB _ h; omega))).keep hk4).ext hx6 (by intro h; have := hsepB _ h; omega)), ((((hBd.ext hx2 (by intro h; have := hsepA _ h; omega)).ext hx3 (by first | (intros; (try simp only []); omega) | (intro h; have := hsepB _ h; omega))).keep hk4).ext hx6 (by intro h; have := hsepB _ h; omega)), ((((hBe.ext hx2 (by intro h; have := hsepA _ h; omega)).ext hx3 (by first | (intros; (try simp only []); omega) | (intro h; have := hsepB _ h; omega))).keep hk4).ext hx6 (by intro h; have := hsepB _ h; omega))⟩, ((hB3.keep hk4).ext hx6 (by intro h; have := hsepB _ h; omega)), (((hC2.ext hx3 (by intro k hk hk2; first | (refine ⟨?_, fun ht => ?_⟩ <;> ((try simp only [] at *); first | omega | (have := hTa k ht; omega) | (have := hTb k ht; omega))) | (refine ⟨?_, fun ht => ?_, ?_⟩ <;> ((try simp only [] at *); first | omega | (have := hTb k ht; omega))))).keep hk4).ext hx6 (fun k hk h => hdB k h)), hH6, (Ext.andThen (Ext.andThen (Ext.andThen (Ext.andThen hE hx2 (by intro k h1 h2; first | exact (h2 : False).elim | exact .inl h2 | exact .inr h2 | (exfalso; (try simp only [] at *); omega))) hx3 (by intro k h1 h2; first | exact (h2 : False).elim | exact .inl h2 | exact .inr h2 | (exfalso; (try simp only [] at *); omega))) hk4 (by intro k h1 h2; first | exact (h2 : False).elim | exact .inl h2 | exact .inr h2 | (exfalso; (try simp only [] at *); omega))) hx6 (by intro k h1 h2; first | exact (h2 : False).elim | exact .inl h2 | exact .inr h2 | (exfalso; (try simp only [] at *); omega))), by omega⟩ (by simp)
end Go.Proofs.Ytgfficbkajcdpaa
