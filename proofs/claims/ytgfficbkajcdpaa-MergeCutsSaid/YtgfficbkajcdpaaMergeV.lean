/- All. -/
import Derived.Test.YtgfficbkajcdpaaMergeN
import Derived.Test.YtgfficbkajcdpaaXRange
import Derived.Test.YtgfficbkajcdpaaProg
namespace Go.Proofs.Ytgfficbkajcdpaa
open Go Go.Proofs.Ytgfficbkajcdpaa.X
set_option linter.unusedVariables false
set_option linter.unusedSimpArgs false
-- f52 "pedigree/merge.All[pedigree/pedigreeref09.Thing]$1" params [46] results [] -> [] nfree 1 ntmps 20 name
set_option maxHeartbeats 4000000 in
set_option maxRecDepth 100000 in
theorem all1_c (yv p : Value) (bl B : Nat) (Tc U : Nat → Prop) (J D : List TH → World → Prop) {xs : List TH} (w : World) (hB : Blk w bl [.iface 84 p] 33) (hC : Cur Try.prog evT (0, 0) NX B Tc p xs w) (hBw : B ≤ w.heap.size) (hTb : ∀ k, Tc k → k < w.heap.size) (hTbl : ¬ Tc bl) (hUbl : ¬ U bl) (hUc : ∀ k, U k → B ≤ k ∧ ¬ Tc k) (hJ0 : J xs w)
    (hJ : ∀ l w1 w2, J l w1 → Ext Tc w1 w2 → J l w2) (hy : ∀ y ys w2, J (y :: ys) w2 → YC Try.prog yv [evT y] w2 fun v w3 => ∃ b, v = .bool b ∧ Ext U w2 w3 ∧ (b = true → J ys w3) ∧ (b = false → D ys w3)) :
    Ret Try.prog 52 #[yv, .pointer (some ⟨bl, 0, none⟩)] w fun v w' => v = .tuple #[] ∧ (∃ ys, Cur Try.prog evT (0, 0) NX B Tc p ys w' ∧ ((ys = [] ∧ J [] w') ∨ D ys w')) ∧ Ext (fun k => Tc k ∨ U k) w w' := by
  have hbll := hB.lt
  refine X.enter Try.func52 rfl Try.ntmps52 rfl ?_
  refine X.block ?_
  -- LOOP live: 0=yield, 1
  refine X.loopL (σ := List TH) (fun s => [(0, yv), (1, .pointer (some ⟨bl, 0, none⟩))]) (fun s w' => Blk w' bl [.iface 84 p] 33 ∧ Cur Try.prog evT (0, 0) NX B Tc p s w' ∧ J s w' ∧ Ext (fun k => Tc k ∨ U k) w w' ∧ w.heap.size ≤ w'.heap.size) (fun s => s.length) xs ⟨rfl, rfl, trivial⟩ ⟨hB, hC, hJ0, Ext.refl _ _, Nat.le_refl _⟩ ?_
  rintro ys b0 wl ⟨hBl, hCl, hJl, hE, hwl⟩ hback
  refine X.seq ?_
  refine X.seq ?_
  refine X.region ?_
  refine X.opw X.wN rfl (X.load1B Try.isAgg33 hBl rfl rfl) ?_
  refine X.opw X.wN rfl (X.neIf1 Try.underlying33 rfl rfl) ?_
  refine X.opsEnd ?_
  refine X.condT rfl ?_
  refine X.skip ?_
  refine X.block ?_
  refine X.seq ?_
  refine X.region ?_
  refine X.opw X.wN rfl (X.load1B Try.isAgg33 hBl rfl rfl) ?_
  refine X.opE X.wN rfl (X.invokeE rfl (next_m _) hCl.next Try.call98) ?_
  rintro _ w1 ⟨rfl, hx1, hC1⟩
  have hx1' := hx1.size
  refine X.opw X.wN rfl (X.move rfl) ?_
  refine X.opw X.wN rfl (X.extr rfl rfl) ?_
  refine X.opw X.wN rfl (X.extr rfl rfl) ?_
  refine X.opE X.wN rfl (X.allocE Try.zeroValue29 rfl) ?_
  rintro _ w2 ⟨rfl, hB2, hk2, hz2⟩
  refine X.opE X.wN rfl (X.storeNE Try.sizeOf29 hB2 rfl rfl rfl rfl (fun u hu => by simp at hu; rcases hu with rfl | rfl <;> rfl)) ?_
  rintro _ w3 ⟨hB3, hx3, hz3⟩
  refine X.opw X.wN rfl (X.assign (v := .bool _) rfl) ?_
  refine X.opsEnd ?_
  refine X.seq ?_
  refine X.region ?_
  refine X.opw X.wN rfl (X.move (v := .bool _) rfl) ?_
  refine X.opw X.wN rfl (X.not_ rfl) ?_
  refine X.opw X.wN rfl (X.move (v := .bool _) rfl) ?_
  refine X.forkO 14 rfl (fun h14 => ?_) (fun h14 => ?_)
  · obtain rfl : ys = [] := by simpa using h14
    refine X.opS rfl rfl rfl rfl rfl ?_
    refine X.opS rfl rfl rfl rfl rfl ?_
    refine X.opS rfl rfl rfl rfl rfl ?_
    refine X.opS rfl rfl rfl rfl rfl ?_
    refine X.opw X.wN rfl (X.pickT (v := .bool true) rfl rfl) ?_
    refine X.opsEnd ?_
    refine X.condT rfl ?_
    refine X.ret0 Try.func52 Try.results52 ?_
    exact ⟨rfl, ⟨[], (hC1.keep (hk2.step hx3 (by intros; (try simp only [] at *); omega))), .inl ⟨rfl, hJ _ _ _ hJl (Ext.andThen (Ext.andThen (Ext.andThen (Ext.refl (fun k => Tc k) _) hx1 (by intro k h1 h2; first | exact h2 | exact (h2 : False).elim | (exfalso; (try simp only [] at *); omega))) hk2 (by intro k h1 h2; first | exact h2 | exact (h2 : False).elim | (exfalso; (try simp only [] at *); omega))) hx3 (by intro k h1 h2; first | exact h2 | exact (h2 : False).elim | (exfalso; (try simp only [] at *); omega)))⟩⟩, (Ext.andThen (Ext.andThen (Ext.andThen hE hx1 (by intro k h1 h2; first | exact h2 | exact .inl h2 | exact .inr h2 | exact (h2 : False).elim | (exfalso; (try simp only [] at *); omega))) hk2 (by intro k h1 h2; first | exact h2 | exact .inl h2 | exact .inr h2 | exact (h2 : False).elim | (exfalso; (try simp only [] at *); omega))) hx3 (by intro k h1 h2; first | exact h2 | exact .inl h2 | exact .inr h2 | exact (h2 : False).elim | (exfalso; (try simp only [] at *); omega)))⟩
  · obtain ⟨y, ys', rfl⟩ : ∃ y ys', ys = y :: ys' := by
      cases ys with
      | nil => simp at h14
      | cons y ys' => exact ⟨y, ys', rfl⟩
    refine X.opw (X.wG rfl rfl rfl) rfl (X.move rfl) ?_
    refine X.opw (X.wG rfl rfl rfl) rfl (X.loadNB Try.isAgg29 Try.sizeOf29 hB3 rfl rfl rfl) ?_
    refine X.opE (X.wG rfl rfl rfl) rfl ((hy y ys' _ (hJ _ _ _ hJl (Ext.andThen (Ext.andThen (Ext.andThen (Ext.refl (fun k => Tc k) _) hx1 (by intro k h1 h2; first | exact h2 | exact (h2 : False).elim | (exfalso; (try simp only [] at *); omega))) hk2 (by intro k h1 h2; first | exact h2 | exact (h2 : False).elim | (exfalso; (try simp only [] at *); omega))) hx3 (by intro k h1 h2; first | exact h2 | exact (h2 : False).elim | (exfalso; (try simp only [] at *); omega))))) _ _ _ _ _ _ _ _ _ rfl rfl) ?_
    rintro _ w4 ⟨bb, rfl, hx4, hyT, hyF⟩
    have hx4' := hx4.size
    refine X.opw (X.wG rfl rfl rfl) rfl (X.not_ rfl) ?_
    refine X.opw X.wN rfl (X.pickF (v := .bool _) rfl rfl) ?_
    refine X.opsEnd ?_
    refine X.condB rfl (fun hc => ?_) (fun hc => ?_)
    · have hbb : bb = false := by simpa using hc
      refine X.ret0 Try.func52 Try.results52 ?_
      exact ⟨rfl, ⟨ys', ((hC1.keep (hk2.step hx3 (by intros; (try simp only [] at *); omega))).ext hx4 (fun k _ h => hUc k h)), .inr (hyF hbb)⟩, (Ext.andThen (Ext.andThen (Ext.andThen (Ext.andThen hE hx1 (by intro k h1 h2; first | exact h2 | exact .inl h2 | exact .inr h2 | exact (h2 : False).elim | (exfalso; (try simp only [] at *); omega))) hk2 (by intro k h1 h2; first | exact h2 | exact .inl h2 | exact .inr h2 | exact (h2 : False).elim | (exfalso; (try simp only [] at *); omega))) hx3 (by intro k h1 h2; first | exact h2 | exact .inl h2 | exact .inr h2 | exact (h2 : False).elim | (exfalso; (try simp only [] at *); omega))) hx4 (by intro k h1 h2; first | exact h2 | exact .inl h2 | exact .inr h2 | exact (h2 : False).elim | (exfalso; (try simp only [] at *); omega)))⟩
    · have hbb : bb = true := by simpa using hc
      refine X.skip ?_
      refine X.inBlock ?_
      refine hback ys' _ _ ⟨rfl, rfl, trivial⟩ ⟨(((hBl.ext hx1 hTbl).keep (hk2.step hx3 (by intros; (try simp only [] at *); omega))).ext hx4 hUbl), ((hC1.keep (hk2.step hx3 (by intros; (try simp only [] at *); omega))).ext hx4 (fun k _ h => hUc k h)), hyT hbb, (Ext.andThen (Ext.andThen (Ext.andThen (Ext.andThen hE hx1 (by intro k h1 h2; first | exact h2 | exact .inl h2 | exact .inr h2 | exact (h2 : False).elim | (exfalso; (try simp only [] at *); omega))) hk2 (by intro k h1 h2; first | exact h2 | exact .inl h2 | exact .inr h2 | exact (h2 : False).elim | (exfalso; (try simp only [] at *); omega))) hx3 (by intro k h1 h2; first | exact h2 | exact .inl h2 | exact .inr h2 | exact (h2 : False).elim | (exfalso; (try simp only [] at *); omega))) hx4 (by intro k h1 h2; first | exact h2 | exact .inl h2 | exact .inr h2 | exact (h2 : False).elim | (exfalso; (try simp only [] at *); omega))), by omega⟩ (by simp)
-- f23 "pedigree/merge.All[pedigree/pedigreeref09.Thing]" params [33] results [44] -> [(ResultVar.tmp 2)] nfre
set_option maxHeartbeats 4000000 in
set_option maxRecDepth 100000 in
theorem All_c (w : World) (p : Value) : Ret Try.prog 23 #[.iface 84 p] w fun r w' => r = .func (.func 52) #[] #[.pointer (some ⟨w.heap.size, 0, none⟩)] ∧ Blk w' w.heap.size [.iface 84 p] 33 ∧ Keep w w' ∧ w'.heap.size = w.heap.size + 1 := by
  refine X.enter Try.func23 rfl Try.ntmps23 rfl ?_
  refine X.seq ?_
  refine X.region ?_
  refine X.opE X.wN rfl (X.boxE rfl rfl) ?_
  rintro _ w1 ⟨rfl, hB1, hk1, hz1⟩
  refine X.opw X.wN rfl (X.assign rfl) ?_
  refine X.opsEnd ?_
  refine X.seq ?_
  refine X.region ?_
  refine X.opw X.wN rfl (X.mkFunc rfl) ?_
  refine X.opw X.wN rfl (X.assign rfl) ?_
  refine X.opsEnd ?_
  refine X.ret1 Try.func23 Try.results23 rfl ?_
  exact ⟨rfl, hB1, hk1, by omega⟩
-- f24 "pedigree/pedigreelaw09.MergeRows$1" params [29] results [4] -> [(ResultVar.tmp 6)] nfree 4 ntmps 30 na
set_option maxHeartbeats 4000000 in
set_option maxRecDepth 100000 in
theorem rows1_c (x : TH) (i most c1 c2 c3 c4 : Nat) {lo hi : Nat} {A : Option Addr} {n c : Nat} {l : List TH} (w : World) (h1 : Blk w c1 [.bool true] 4) (h2 : Blk w c2 [.int .i64 (i : Int)] 3) (h3 : Blk w c3 [.slice A n c] 24) (h4 : Blk w c4 [.int .i64 (most : Int)] 3) (hs : Sl KTh lo hi w A n l) (hx : l[i]? = some x) (hn : n ≤ 1000000) (hne : c1 ≠ c2 ∧ c1 ≠ c3 ∧ c1 ≠ c4 ∧ c2 ≠ c3 ∧ c2 ≠ c4) (hsl : (c1 < lo ∨ hi ≤ c1) ∧ (c2 < lo ∨ hi ≤ c2)) :
    Ret Try.prog 24 #[evT x, .pointer (some ⟨c1, 0, none⟩), .pointer (some ⟨c2, 0, none⟩), .pointer (some ⟨c3, 0, none⟩), .pointer (some ⟨c4, 0, none⟩)] w fun r w' => r = .bool (decide (i + 1 < most)) ∧ Blk w' c1 [.bool true] 4 ∧ Blk w' c2 [.int .i64 ((i + 1 : Nat) : Int)] 3 ∧ Ext (fun k => k = c1 ∨ k = c2) w w' := by
  have hl := hs.len
  have hil := (List.getElem?_eq_some_iff.1 hx).1
  have h1l := h1.lt
  have h2l := h2.lt
  have h3l := h3.lt
  have h4l := h4.lt
  refine X.enter Try.func24 rfl Try.ntmps24 rfl ?_
  refine X.seq ?_
  refine X.region ?_
  refine X.opE X.wN rfl (X.boxE rfl rfl) ?_
  rintro _ w1 ⟨rfl, hB1, hk1, hz1⟩
  refine X.opw X.wN rfl (X.assign rfl) ?_
  refine X.opsEnd ?_
  refine X.seq ?_
  refine X.regionD (fun _ => False) 15 (by kernel_rfl) (by kernel_rfl) (fun w2 hk2 hz2 => ?_)
  refine X.dTake 0 rfl (by kernel_rfl) (by kernel_rfl) (by kernel_rfl) (X.dwN rfl) (fun w' hk' => X.load1B Try.isAgg4 (h1.keep ((hk1.trans hk2).trans hk')) rfl rfl) ?_
  refine X.dTake 1 rfl (by kernel_rfl) (by kernel_rfl) (by kernel_rfl) (X.dwN rfl) (fun w' hk' => X.move (v := .bool _) rfl) ?_
  refine X.dFork 8 rfl (fun h8 => ?_) (fun h8 => ?_)
  · refine X.dTake 2 rfl (by kernel_rfl) (by kernel_rfl) (by kernel_rfl) (X.dwG rfl rfl rfl) (fun w' hk' => X.load1B Try.isAgg3 (h2.keep ((hk1.trans hk2).trans hk')) rfl rfl) ?_
    refine X.dTake 3 rfl (by kernel_rfl) (by kernel_rfl) (by kernel_rfl) (X.dwG rfl rfl rfl) (fun w' hk' => X.load1B Try.isAgg24 (h3.keep ((hk1.trans hk2).trans hk')) rfl rfl) ?_
    refine X.dTake 4 rfl (by kernel_rfl) (by kernel_rfl) (by kernel_rfl) (X.dwG rfl rfl rfl) (fun w' hk' => X.lenSl Try.underlying24 rfl) ?_
    refine X.dTake 5 rfl (by kernel_rfl) (by kernel_rfl) (by kernel_rfl) (X.dwG rfl rfl rfl) (fun w' hk' => X.lss rfl rfl) ?_
    refine X.dTake 6 rfl (by kernel_rfl) (by kernel_rfl) (by kernel_rfl) (X.dwN rfl) (fun w' hk' => X.pickT (v := .bool _) rfl rfl) ?_
    refine X.dTake 7 rfl (by kernel_rfl) (by kernel_rfl) (by kernel_rfl) (X.dwN rfl) (fun w' hk' => X.move (v := .bool _) rfl) ?_
    refine X.dFork 14 rfl (fun h14 => ?_) (fun h14 => ?_)
    · refine X.dTake 8 rfl (by kernel_rfl) (by kernel_rfl) (by kernel_rfl) (X.dwG rfl rfl rfl) (fun w' hk' => X.load1B Try.isAgg24 (h3.keep ((hk1.trans hk2).trans hk')) rfl rfl) ?_
      refine X.dTake 9 rfl (by kernel_rfl) (by kernel_rfl) (by kernel_rfl) (X.dwG rfl rfl rfl) (fun w' hk' => X.load1B Try.isAgg3 (h2.keep ((hk1.trans hk2).trans hk')) rfl rfl) ?_
      refine X.dTake 10 rfl (by kernel_rfl) (by kernel_rfl) (by kernel_rfl) (X.dwG rfl rfl rfl) (fun w' hk' => X.idxS (hs.keep ((hk1.trans hk2).trans hk')) Try.underlying24 Try.sizeOf29 rfl rfl ⟨by omega, by omega⟩) ?_
      refine X.dTake 11 rfl (by kernel_rfl) (by kernel_rfl) (by kernel_rfl) (X.dwG rfl rfl rfl) (fun w' hk' => X.loadSN Try.isAgg29 Try.sizeOf29 (hs.keep ((hk1.trans hk2).trans hk')) hx rfl (fun _ h => h.1) rfl) ?_
      refine X.dTake 12 rfl (by kernel_rfl) (by kernel_rfl) (by kernel_rfl) (X.dwG rfl rfl rfl) (fun w' hk' => X.loadNB Try.isAgg29 Try.sizeOf29 (hB1.keep (hk2.trans hk')) rfl rfl rfl) ?_
      refine X.dTake 13 rfl (by kernel_rfl) (by kernel_rfl) (by kernel_rfl) (X.dwG rfl rfl rfl) (fun w' hk' => X.eqA eqT_guard rfl rfl (eqT x x _)) ?_
      refine X.dTake 14 rfl (by kernel_rfl) (by kernel_rfl) (by kernel_rfl) (X.dwN rfl) (fun w' hk' => X.pickT (v := .bool _) rfl rfl) ?_
      refine X.dE (i := 15) (by kernel_rfl) rfl (X.dwN rfl) (X.storeE Try.sizeOf4 (h1.keep (hk1.trans hk2)) rfl rfl rfl rfl) (fun _ _ _ h => absurd h (by decide)) ?_
      rintro _ w3 ⟨hB3, hx3, hz3⟩
      refine X.dEnd (by kernel_rfl) ?_
      refine X.seq ?_
      refine X.region ?_
      refine X.opw X.wN rfl (X.load1B Try.isAgg3 ((h2.keep (hk1.trans hk2)).ext hx3 (by intros; (try simp only []); omega)) rfl rfl) ?_
      refine X.opw X.wN rfl (X.add (c := ((i + 1 : Nat) : Int)) rfl rfl (by rw [X.w_i64 (by omega)]; omega)) ?_
      refine X.opE X.wN rfl (X.storeE Try.sizeOf3 ((h2.keep (hk1.trans hk2)).ext hx3 (by intros; (try simp only []); omega)) rfl rfl rfl rfl) ?_
      rintro _ w4 ⟨hB4, hx4, hz4⟩
      refine X.opsEnd ?_
      refine X.seq ?_
      refine X.region ?_
      refine X.opw X.wN rfl (X.load1B Try.isAgg4 (hB3.ext hx4 (by intros; (try simp only []); omega)) rfl rfl) ?_
      refine X.opw X.wN rfl (X.move (v := .bool _) rfl) ?_
      refine X.forkO 25 rfl (fun h25 => ?_) (fun h25 => ?_)
      · refine X.opw (X.wG rfl rfl rfl) rfl (X.load1B Try.isAgg3 hB4 rfl rfl) ?_
        refine X.opw (X.wG rfl rfl rfl) rfl (X.load1B Try.isAgg3 (((h4.keep (hk1.trans hk2)).ext hx3 (by intros; (try simp only []); omega)).ext hx4 (by intros; (try simp only []); omega)) rfl rfl) ?_
        refine X.opw (X.wG rfl rfl rfl) rfl (X.lss rfl rfl) ?_
        refine X.opw X.wN rfl (X.pickT (v := .bool _) rfl rfl) ?_
        refine X.opw X.wN rfl (X.assign (v := .bool _) rfl) ?_
        refine X.opsEnd ?_
        refine X.ret1 (v := (.bool _)) Try.func24 Try.results24 rfl ?_
        exact ⟨congrArg Value.bool (decide_eq_decide.2 ⟨fun h => by omega, fun h => by omega⟩), (by have h : Blk _ c1 [.bool (decide (x = x))] 4 := (hB3.ext hx4 (by intros; (try simp only []); omega)); rw [decide_eq_true (rfl : x = x)] at h; exact h), hB4, (Ext.andThen (Ext.andThen (Ext.andThen (Ext.andThen (Ext.refl (fun k => k = c1 ∨ k = c2) _) hk1 (by intro k h1 h2; first | exact h2 | exact .inl h2 | exact .inr h2 | exact (h2 : False).elim | (exfalso; (try simp only [] at *); omega))) hk2 (by intro k h1 h2; first | exact h2 | exact .inl h2 | exact .inr h2 | exact (h2 : False).elim | (exfalso; (try simp only [] at *); omega))) hx3 (by intro k h1 h2; first | exact h2 | exact .inl h2 | exact .inr h2 | exact (h2 : False).elim | (exfalso; (try simp only [] at *); omega))) hx4 (by intro k h1 h2; first | exact h2 | exact .inl h2 | exact .inr h2 | exact (h2 : False).elim | (exfalso; (try simp only [] at *); omega)))⟩
      · simp at h25
    · exact absurd (of_decide_eq_false h14) (by omega)
  · cases h8
end Go.Proofs.Ytgfficbkajcdpaa
