/- Only. -/
import Derived.Test.YtgfficbkajcdpaaMergeY
import Derived.Test.YtgfficbkajcdpaaProg
namespace Go.Proofs.Ytgfficbkajcdpaa
open Go Go.Proofs.Ytgfficbkajcdpaa.X
set_option linter.unusedVariables false
set_option linter.unusedSimpArgs false
-- f55 "pedigree/merge.Only[pedigree/pedigreeref09.Thing]$1" params [] results [29, 4] -> [(ResultVar.cell 2 2
set_option maxHeartbeats 4000000 in
set_option maxRecDepth 100000 in
theorem Only1_c (q : TH → Bool) (PW : World → Prop) {B c3 c2 : Nat} {Tc : Nat → Prop} {xs0 : List TH} {pv p : Value} (w : World) (hbl : Blk w c3 [.iface 84 p] 33 ∧ Blk w c2 [pv] 46) (hC : Cur Try.prog evT (0, 0) NX B Tc p xs0 w) (hP0 : PW w) (hBs : B ≤ w.heap.size) (hsep : ∀ k, Tc k → B ≤ k ∧ k ≠ c3 ∧ k ≠ c2 ∧ k < w.heap.size) (hPW : ∀ w w', PW w → Ext (fun k => B ≤ k) w w' → PW w')
    (hpr : ∀ (x : TH) (wa : World), PW wa → YC Try.prog pv [evT x] wa fun r wb => r = .bool (q x) ∧ Keep wa wb) :
    Ret Try.prog 55 #[.pointer (some ⟨c3, 0, none⟩), .pointer (some ⟨c2, 0, none⟩)] w fun r w' => r = hdV evT (0, 0) (xs0.filter q) ∧ Ext Tc w w' ∧ (xs0.filter q ≠ [] → ∃ xs, (xs0.filter q).tail = xs.filter q ∧ Cur Try.prog evT (0, 0) NX B Tc p xs w' ∧ (Blk w' c3 [.iface 84 p] 33 ∧ Blk w' c2 [pv] 46) ∧ PW w') := by
  obtain ⟨h3, h2⟩ := hbl
  have h3l := h3.lt
  have h2l := h2.lt
  refine X.enter Try.func55 rfl Try.ntmps55 rfl ?_
  refine X.seq ?_
  refine X.region ?_
  refine X.opE X.wN rfl (X.allocE Try.zeroValue29 rfl) ?_
  rintro _ w1 ⟨rfl, hB1, hk1, hz1⟩
  refine X.opw X.wN rfl (X.assign rfl) ?_
  refine X.opsEnd ?_
  refine X.block ?_
  -- LOOP live: 0, 1, 2=x
  refine X.loopL (σ := TH × List TH) (fun s => [(0, .pointer (some ⟨c3, 0, none⟩)), (1, .pointer (some ⟨c2, 0, none⟩)), (2, .pointer (some ⟨w.heap.size, 0, none⟩))]) (fun s w' => s.2.filter q = xs0.filter q ∧ (Blk w' c3 [.iface 84 p] 33 ∧ Blk w' c2 [pv] 46) ∧ Blk w' w.heap.size [.int .i8 s.1.1, .int .i64 s.1.2] 29 ∧ Cur Try.prog evT (0, 0) NX B Tc p s.2 w' ∧ PW w' ∧ Ext Tc w w' ∧ w.heap.size < w'.heap.size) (fun s => s.2.length) ((0, 0), xs0) ⟨rfl, rfl, rfl, trivial⟩ ⟨rfl, ⟨(h3.keep hk1), (h2.keep hk1)⟩, hB1, hC.keep hk1, hPW _ _ hP0 (hk1.mono fun _ _ h => h.elim), hk1.mono (fun _ _ h => h.elim), by omega⟩ ?_
  rintro ⟨z, xs⟩ b0 wl ⟨hol, ⟨hBa, hBb⟩, hBz, hCc, hP, hE, hwl⟩ hback
  dsimp only
  simp only at hol hBz hCc
  refine X.block ?_
  refine X.seq ?_
  refine X.region ?_
  refine X.opw X.wN rfl (X.load1B Try.isAgg33 hBa rfl rfl) ?_
  refine X.opE X.wN rfl (X.invokeE rfl (next_m _) hCc.next Try.call98) ?_
  rintro _ w2 ⟨rfl, hx2, hC2⟩
  have hx2' := hx2.size
  refine X.opw X.wN rfl (X.move rfl) ?_
  refine X.opw X.wN rfl (X.extr rfl rfl) ?_
  refine X.opw X.wN rfl (X.extr rfl rfl) ?_
  refine X.opE X.wN rfl (X.storeNE Try.sizeOf29 (hBz.ext hx2 (by intro h; have := hsep _ h; omega)) rfl rfl rfl rfl (fun u hu => by simp at hu; rcases hu with rfl | rfl <;> rfl)) ?_
  rintro _ w3 ⟨hB3, hx3, hz3⟩
  refine X.opw X.wN rfl (X.assign (v := .bool _) rfl) ?_
  refine X.opsEnd ?_
  refine X.seq ?_
  refine X.region ?_
  refine X.opw X.wN rfl (X.move (v := .bool _) rfl) ?_
  refine X.opw X.wN rfl (X.not_ rfl) ?_
  refine X.opw X.wN rfl (X.move (v := .bool _) rfl) ?_
  refine X.forkO 11 rfl (fun h11 => ?_) (fun h11 => ?_)
  · obtain rfl : xs = [] := by simpa using h11
    refine X.opS rfl rfl rfl rfl rfl ?_
    refine X.opS rfl rfl rfl rfl rfl ?_
    refine X.opS rfl rfl rfl rfl rfl ?_
    refine X.opw X.wN rfl (X.pickT (v := .bool true) rfl rfl) ?_
    refine X.opsEnd ?_
    refine X.condT rfl ?_
    refine X.seq ?_
    refine X.region ?_
    refine X.opw X.wN rfl (X.loadNB Try.isAgg29 Try.sizeOf29 hB3 rfl rfl rfl) ?_
    refine X.opw X.wN rfl (X.move (v := .bool _) rfl) ?_
    refine X.opE X.wN rfl (X.storeNE Try.sizeOf29 hB3 rfl rfl rfl rfl (fun u hu => by simp at hu; rcases hu with rfl | rfl <;> rfl)) ?_
    rintro _ w4 ⟨hB4, hx4, hz4⟩
    refine X.opw X.wN rfl (X.assign (v := .bool _) rfl) ?_
    refine X.opsEnd ?_
    refine X.ret_unw (X.unwR2 Try.func55 Try.results55 (X.ResOk.cell rfl (X.lvN Try.isAgg29 Try.sizeOf29 hB4 rfl)) (show X.ResOk _ _ _ (.tmp 3) (.bool _) from rfl) ?_)
    rw [← hol]
    exact ⟨rfl, (Ext.andThen (Ext.andThen (Ext.andThen hE hx2 (by intro k h1 h2; first | exact (h2 : False).elim | exact h2 | (exfalso; (try simp only [] at *); omega))) hx3 (by intro k h1 h2; first | exact (h2 : False).elim | exact h2 | (exfalso; (try simp only [] at *); omega))) hx4 (by intro k h1 h2; first | exact (h2 : False).elim | exact h2 | (exfalso; (try simp only [] at *); omega))), fun h => absurd rfl h⟩
  · obtain ⟨x, xs', rfl⟩ : ∃ x xs', xs = x :: xs' := by
      cases xs with
      | nil => simp at h11
      | cons x xs' => exact ⟨x, xs', rfl⟩
    refine X.opw (X.wG rfl rfl rfl) rfl (X.load1B Try.isAgg46 ((hBb.ext hx2 (by intro h; have := hsep _ h; omega)).ext hx3 (by first | (intros; (try simp only []); omega) | (intro h; have := hsep _ h; omega))) rfl rfl) ?_
    refine X.opw (X.wG rfl rfl rfl) rfl (X.loadNB Try.isAgg29 Try.sizeOf29 hB3 rfl rfl rfl) ?_
    refine X.opE (X.wG rfl rfl rfl) rfl ((hpr x _ (hPW _ _ hP (Ext.andThen (Ext.andThen (Ext.refl (fun k => B ≤ k) _) hx2 (by intro k h1 h2; first | exact (h2 : False).elim | exact (hsep k h2).1 | (have := hsep k h2; omega) | ((try simp only [] at *); omega))) hx3 (by intro k h1 h2; first | exact (h2 : False).elim | exact (hsep k h2).1 | (have := hsep k h2; omega) | ((try simp only [] at *); omega))))) _ _ _ _ _ _ _ _ _ rfl rfl) ?_
    rintro _ w5 ⟨rfl, hk5⟩
    have hk5' := hk5.size
    refine X.opw X.wN rfl (X.pickF (v := .bool _) rfl rfl) ?_
    refine X.opsEnd ?_
    refine X.condB rfl (fun hc => ?_) (fun hc => ?_)
    · have hq : q x = true := hc
      refine X.seq ?_
      refine X.region ?_
      refine X.opw X.wN rfl (X.loadNB Try.isAgg29 Try.sizeOf29 (hB3.keep hk5) rfl rfl rfl) ?_
      refine X.opw X.wN rfl (X.move (v := .bool _) rfl) ?_
      refine X.opE X.wN rfl (X.storeNE Try.sizeOf29 (hB3.keep hk5) rfl rfl rfl rfl (fun u hu => by simp at hu; rcases hu with rfl | rfl <;> rfl)) ?_
      rintro _ w6 ⟨hB6, hx6, hz6⟩
      refine X.opw X.wN rfl (X.assign (v := .bool _) rfl) ?_
      refine X.opsEnd ?_
      refine X.ret_unw (X.unwR2 Try.func55 Try.results55 (X.ResOk.cell rfl (X.lvN Try.isAgg29 Try.sizeOf29 hB6 rfl)) (show X.ResOk _ _ _ (.tmp 3) (.bool _) from rfl) ?_)
      rw [← hol, List.filter_cons, if_pos hq]
      exact ⟨rfl, (Ext.andThen (Ext.andThen (Ext.andThen (Ext.andThen hE hx2 (by intro k h1 h2; first | exact (h2 : False).elim | exact h2 | (exfalso; (try simp only [] at *); omega))) hx3 (by intro k h1 h2; first | exact (h2 : False).elim | exact h2 | (exfalso; (try simp only [] at *); omega))) hk5 (by intro k h1 h2; first | exact (h2 : False).elim | exact h2 | (exfalso; (try simp only [] at *); omega))) hx6 (by intro k h1 h2; first | exact (h2 : False).elim | exact h2 | (exfalso; (try simp only [] at *); omega))), fun _ => ⟨xs', rfl, (((hC2.ext hx3 (by intro k hk hk2; refine ⟨?_, fun ht => ?_⟩ <;> ((try simp only [] at *); first | omega | (have := hsep k ht; omega)))).keep hk5).ext hx6 (by intro k hk hk2; refine ⟨?_, fun ht => ?_⟩ <;> ((try simp only [] at *); first | omega | (have := hsep k ht; omega)))), ⟨((((hBa.ext hx2 (by intro h; have := hsep _ h; omega)).ext hx3 (by first | (intros; (try simp only []); omega) | (intro h; have := hsep _ h; omega))).keep hk5).ext hx6 (by first | (intros; (try simp only []); omega) | (intro h; have := hsep _ h; omega))), ((((hBb.ext hx2 (by intro h; have := hsep _ h; omega)).ext hx3 (by first | (intros; (try simp only []); omega) | (intro h; have := hsep _ h; omega))).keep hk5).ext hx6 (by first | (intros; (try simp only []); omega) | (intro h; have := hsep _ h; omega)))⟩, (hPW _ _ hP (Ext.andThen (Ext.andThen (Ext.andThen (Ext.andThen (Ext.refl (fun k => B ≤ k) _) hx2 (by intro k h1 h2; first | exact (h2 : False).elim | exact (hsep k h2).1 | (have := hsep k h2; omega) | ((try simp only [] at *); omega))) hx3 (by intro k h1 h2; first | exact (h2 : False).elim | exact (hsep k h2).1 | (have := hsep k h2; omega) | ((try simp only [] at *); omega))) hk5 (by intro k h1 h2; first | exact (h2 : False).elim | exact (hsep k h2).1 | (have := hsep k h2; omega) | ((try simp only [] at *); omega))) hx6 (by intro k h1 h2; first | exact (h2 : False).elim | exact (hsep k h2).1 | (have := hsep k h2; omega) | ((try simp only [] at *); omega))))⟩⟩
    · have hq : ¬ q x = true := by simpa using hc
      refine X.skip ?_
      refine X.inBlock ?_
      refine hback (x, xs') _ _ ⟨rfl, rfl, rfl, trivial⟩ ⟨by rw [← hol, List.filter_cons, if_neg hq], ⟨(((hBa.ext hx2 (by intro h; have := hsep _ h; omega)).ext hx3 (by first | (intros; (try simp only []); omega) | (intro h; have := hsep _ h; omega))).keep hk5), (((hBb.ext hx2 (by intro h; have := hsep _ h; omega)).ext hx3 (by first | (intros; (try simp only []); omega) | (intro h; have := hsep _ h; omega))).keep hk5)⟩, (hB3.keep hk5), ((hC2.ext hx3 (by intro k hk hk2; refine ⟨?_, fun ht => ?_⟩ <;> ((try simp only [] at *); first | omega | (have := hsep k ht; omega)))).keep hk5), (hPW _ _ hP (Ext.andThen (Ext.andThen (Ext.andThen (Ext.refl (fun k => B ≤ k) _) hx2 (by intro k h1 h2; first | exact (h2 : False).elim | exact (hsep k h2).1 | (have := hsep k h2; omega) | ((try simp only [] at *); omega))) hx3 (by intro k h1 h2; first | exact (h2 : False).elim | exact (hsep k h2).1 | (have := hsep k h2; omega) | ((try simp only [] at *); omega))) hk5 (by intro k h1 h2; first | exact (h2 : False).elim | exact (hsep k h2).1 | (have := hsep k h2; omega) | ((try simp only [] at *); omega)))), (Ext.andThen (Ext.andThen (Ext.andThen hE hx2 (by intro k h1 h2; first | exact (h2 : False).elim | exact h2 | (exfalso; (try simp only [] at *); omega))) hx3 (by intro k h1 h2; first | exact (h2 : False).elim | exact h2 | (exfalso; (try simp only [] at *); omega))) hk5 (by intro k h1 h2; first | exact (h2 : False).elim | exact h2 | (exfalso; (try simp only [] at *); omega))), by omega⟩ (by simp)
theorem only_stp (q : TH → Bool) (PW : World → Prop) {B a b c3 c2 : Nat} {Tc : Nat → Prop} {xs0 : List TH} {pv p : Value} {w : World} (hbl : Blk w c3 [.iface 84 p] 33 ∧ Blk w c2 [pv] 46) (hC : Cur Try.prog evT (0, 0) NX B Tc p xs0 w) (hP0 : PW w) (hBa : B ≤ a) (hbw : b ≤ w.heap.size) (hT : ∀ k, Tc k → a ≤ k ∧ k < b) (h3 : a ≤ c3 ∧ c3 < b) (h2 : a ≤ c2 ∧ c2 < b)
    (hsep : ∀ k, Tc k → k ≠ c3 ∧ k ≠ c2) (hPW : ∀ w w', PW w → Ext (fun k => B ≤ k) w w' → PW w') (hpr : ∀ (x : TH) (wa : World), PW wa → YC Try.prog pv [evT x] wa fun r wb => r = .bool (q x) ∧ Keep wa wb) : Stp Try.prog evT (0, 0) B (fun k => a ≤ k ∧ k < b) (.func (.func 55) #[] #[ptrV c3, ptrV c2]) (xs0.filter q) w := by
  refine ⟨fun l w => ∃ xs0, l = xs0.filter q ∧ b ≤ w.heap.size ∧ (Blk w c3 [.iface 84 p] 33 ∧ Blk w c2 [pv] 46) ∧ Cur Try.prog evT (0, 0) NX B Tc p xs0 w ∧ PW w, ⟨xs0, rfl, hbw, hbl, hC, hP0⟩, ?_, ?_⟩
  · rintro l w w' ⟨xs, g1, g2, ⟨q3, q2⟩, g4, g5⟩ ha
    have hz := ha.size
    exact ⟨xs, g1, by omega, ⟨ha.blk q3 h3, ha.blk q2 h2⟩, g4.agree (ha.sub hT), hPW _ _ g5 (Ext.mono ha fun k _ h => h.1)⟩
  · rintro l w ⟨xs, rfl, g2, g3, g4, g5⟩
    refine YC.of_ret (args := []) (cap := [_, _]) ((Only1_c q PW w g3 g4 g5 (by omega) (fun k hk => by have := hsep k hk; have := hT k hk; omega) hPW hpr).mono ?_) Try.call55
    rintro r w' ⟨rfl, hx, hn'⟩
    have hz := hx.size
    refine ⟨rfl, hx.mono fun k _ hk => hT k hk, fun hne' => ?_⟩
    obtain ⟨xs', e1, e2, e3, e4⟩ := hn' hne'
    exact ⟨xs', e1, by omega, e3, e2, e4⟩
-- f33 "pedigree/merge.Only[pedigree/pedigreeref09.Thing]" params [46, 33] results [33] -> [(ResultVar.tmp 4)]
set_option maxHeartbeats 4000000 in
set_option maxRecDepth 100000 in
theorem Only_c (q : TH → Bool) (PW : World → Prop) {B a0 b0 : Nat} {p : Value} {l0 : List TH} {fn : Fn} {bs ca : Array Value} (w : World) (h0 : CV B (fun k => a0 ≤ k ∧ k < b0) (.iface 84 p) l0 w) (hP0 : PW w) (hB : B ≤ a0) (hab : a0 ≤ b0) (hb : b0 ≤ w.heap.size) (hPW : ∀ w w', PW w → Ext (fun k => B ≤ k) w w' → PW w') (hpr : ∀ (x : TH) (wa : World), PW wa → YC Try.prog (.func fn bs ca) [evT x] wa fun r wb => r = .bool (q x) ∧ Keep wa wb) :
    Ret Try.prog 33 #[.func fn bs ca, .iface 84 p] w fun r w' => (∃ p', r = .iface 84 p') ∧ CV B (fun k => a0 ≤ k ∧ k < w'.heap.size) r (l0.filter q) w' ∧ Keep w w' := by
  refine X.enter Try.func33 rfl Try.ntmps33 rfl ?_
  refine X.seq ?_
  refine X.region ?_
  refine X.opE X.wN rfl (X.boxE rfl rfl) ?_
  rintro _ w1 ⟨rfl, hB1, hk1, hz1⟩
  refine X.opE X.wN rfl (X.boxE rfl rfl) ?_
  rintro _ w2 ⟨rfl, hB2, hk2, hz2⟩
  refine X.opw X.wN rfl (X.assign rfl) ?_
  refine X.opsEnd ?_
  refine X.seq ?_
  refine X.seq ?_
  refine X.region ?_
  refine X.opw X.wN rfl (X.load1B Try.isAgg46 (hB1.keep hk2) rfl rfl) ?_
  refine X.opw X.wN rfl (X.eqFn1 Try.underlying46 rfl rfl) ?_
  refine X.opw X.wN rfl (X.move (v := .bool false) rfl) ?_
  refine X.opw (X.wG rfl rfl rfl) rfl (X.load1B Try.isAgg33 hB2 rfl rfl) ?_
  refine X.opw (X.wG rfl rfl rfl) rfl (X.eqIf1 Try.underlying33 rfl rfl) ?_
  refine X.opw X.wN rfl (X.pickF (v := .bool false) rfl rfl) ?_
  refine X.opsEnd ?_
  refine X.condF rfl ?_
  refine X.skip ?_
  refine X.seq ?_
  refine X.region ?_
  refine X.opw X.wN rfl (X.mkFunc rfl) ?_
  refine X.opw X.wN rfl (X.buildB (vs := [(0, .func (.func 55) #[] #[ptrV (w1.heap.size), ptrV (w.heap.size)])]) (cs := #[.func (.func 55) #[] #[ptrV (w1.heap.size), ptrV (w.heap.size)], .bool false]) rfl (by kernel_rfl)) ?_
  refine X.opE X.wN rfl (X.boxE rfl rfl) ?_
  rintro _ w3 ⟨rfl, hB3, hk3, hz3⟩
  refine X.opw X.wN rfl (X.mkIface Try.underlying84 rfl rfl) ?_
  refine X.opw X.wN rfl (X.assign rfl) ?_
  refine X.opsEnd ?_
  refine X.ret1 Try.func33 Try.results33 rfl ?_
  refine ⟨⟨_, rfl⟩, ?_, ((hk1.trans hk2).trans hk3)⟩
  exact CV.wide (cur_made (a := a0) (b := w2.heap.size) (only_stp q PW (Tc := fun k => a0 ≤ k ∧ k < b0) ⟨(hB2.keep hk3), (hB1.keep (hk2.trans hk3))⟩ (CV.cur (h0.keep ((hk1.trans hk2).trans hk3))) (hPW _ _ hP0 (((hk1.trans hk2).trans hk3).mono fun _ _ h => h.elim)) hB (by omega) (fun k hk => by omega) (by omega) (by omega) (fun k hk => by (try simp only [] at *); omega) hPW hpr) hB3 (by omega) (Nat.le_refl _) (by omega)) (fun k hk => by omega)
end Go.Proofs.Ytgfficbkajcdpaa
