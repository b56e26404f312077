/- Turn. -/
import Derived.Test.YtgfficbkajcdpaaMergeCb
import Derived.Test.YtgfficbkajcdpaaProg
namespace Go.Proofs.Ytgfficbkajcdpaa
open Go Go.Proofs.Ytgfficbkajcdpaa.X
set_option linter.unusedVariables false
set_option linter.unusedSimpArgs false
-- f58 "pedigree/merge.Turn[pedigree/pedigreeref09.Thing,int]$1" params [] results [3, 4] -> [(ResultVar.tmp 2
set_option maxHeartbeats 4000000 in
set_option maxRecDepth 100000 in
theorem Turn1_c (g : TH → Int) {B c3 c2 : Nat} {Tc : Nat → Prop} {xs : List TH} {fv p : Value} (w : World) (hbl : Blk w c3 [.iface 84 p] 33 ∧ Blk w c2 [fv] 60) (hC : Cur Try.prog evT (0, 0) NX B Tc p xs w) (hBs : B ≤ w.heap.size) (hsep : ∀ k, Tc k → k ≠ c3 ∧ k ≠ c2 ∧ k < w.heap.size) (hg : ∀ (x : TH) (wa : World), YC Try.prog fv [evT x] wa fun r wb => r = .int .i64 (g x) ∧ Keep wa wb) :
    Ret Try.prog 58 #[.pointer (some ⟨c3, 0, none⟩), .pointer (some ⟨c2, 0, none⟩)] w fun r w' => r = hdV evI 0 (xs.map g) ∧ Ext (fun k => Tc k) w w' ∧ (Blk w' c3 [.iface 84 p] 33 ∧ Blk w' c2 [fv] 60) ∧ Cur Try.prog evT (0, 0) NX B Tc p xs.tail w' := by
  obtain ⟨h3, h2⟩ := hbl
  have h3l := h3.lt
  have h2l := h2.lt
  refine X.enter Try.func58 rfl Try.ntmps58 rfl ?_
  refine X.seq ?_
  refine X.region ?_
  refine X.opw X.wN rfl (X.assign rfl) ?_
  refine X.opw X.wN rfl (X.assign rfl) ?_
  refine X.opsEnd ?_
  refine X.seq ?_
  refine X.region ?_
  refine X.opw X.wN rfl (X.load1B Try.isAgg33 h3 rfl rfl) ?_
  refine X.opE X.wN rfl (X.invokeE rfl (next_m _) hC.next Try.call98) ?_
  rintro _ w1 ⟨rfl, hx1, hC1⟩
  have hx1' := hx1.size
  refine X.opw X.wN rfl (X.move rfl) ?_
  refine X.opw X.wN rfl (X.extr rfl rfl) ?_
  refine X.opw X.wN rfl (X.extr rfl rfl) ?_
  refine X.opE X.wN rfl (X.allocE Try.zeroValue29 rfl) ?_
  rintro _ w2 ⟨rfl, hB2, hk2, hz2⟩
  refine X.opE X.wN rfl (X.storeNE Try.sizeOf29 hB2 rfl rfl rfl rfl (fun u hu => by simp at hu; rcases hu with rfl | rfl <;> rfl)) ?_
  rintro _ w3 ⟨hB3, hx3, hz3⟩
  refine X.opw X.wN rfl (X.assign (v := .bool _) rfl) ?_
  refine X.opsEnd ?_
  refine X.seq ?_
  refine X.seq ?_
  refine X.region ?_
  refine X.opw X.wN rfl (X.move (v := .bool _) rfl) ?_
  refine X.opw X.wN rfl (X.not_ rfl) ?_
  refine X.opsEnd ?_
  refine X.condB rfl (fun hc => ?_) (fun hc => ?_)
  · obtain rfl : xs = [] := by simpa using hc
    refine X.seq ?_
    refine X.region ?_
    refine X.opw X.wN rfl (X.move (v := .int .i64 _) rfl) ?_
    refine X.opw X.wN rfl (X.assign (v := .int .i64 _) rfl) ?_
    refine X.opw X.wN rfl (X.assign rfl) ?_
    refine X.opsEnd ?_
    refine X.ret2 (v1 := (.int .i64 _)) (v2 := (.bool _)) Try.func58 Try.results58 rfl rfl ?_
    exact ⟨rfl, (Ext.andThen (Ext.andThen (Ext.andThen (Ext.refl (fun k => Tc k) _) hx1 (by intro k h1 h2; first | exact (h2 : False).elim | exact h2 | (exfalso; (try simp only [] at *); omega))) hk2 (by intro k h1 h2; first | exact (h2 : False).elim | exact h2 | (exfalso; (try simp only [] at *); omega))) hx3 (by intro k h1 h2; first | exact (h2 : False).elim | exact h2 | (exfalso; (try simp only [] at *); omega))), ⟨((h3.ext hx1 (by intro h; have := hsep _ h; omega)).keep (hk2.step hx3 (by intros; (try simp only [] at *); omega))), ((h2.ext hx1 (by intro h; have := hsep _ h; omega)).keep (hk2.step hx3 (by intros; (try simp only [] at *); omega)))⟩, (hC1.keep (hk2.step hx3 (by intros; (try simp only [] at *); omega)))⟩
  · obtain ⟨x, xs', rfl⟩ : ∃ x xs', xs = x :: xs' := by
      cases xs with
      | nil => simp at hc
      | cons x xs' => exact ⟨x, xs', rfl⟩
    refine X.skip ?_
    refine X.seq ?_
    refine X.region ?_
    refine X.opw X.wN rfl (X.load1B Try.isAgg60 ((h2.ext hx1 (by intro h; have := hsep _ h; omega)).keep (hk2.step hx3 (by intros; (try simp only [] at *); omega))) rfl rfl) ?_
    refine X.opw X.wN rfl (X.loadNB Try.isAgg29 Try.sizeOf29 hB3 rfl rfl rfl) ?_
    refine X.opE X.wN rfl ((hg x _) _ _ _ _ _ _ _ _ _ rfl rfl) ?_
    rintro _ w4 ⟨rfl, hk4⟩
    have hk4' := hk4.size
    refine X.opw X.wN rfl (X.assign (v := .int .i64 _) rfl) ?_
    refine X.opw X.wN rfl (X.assign rfl) ?_
    refine X.opsEnd ?_
    refine X.ret2 (v1 := (.int .i64 _)) (v2 := (.bool _)) Try.func58 Try.results58 rfl rfl ?_
    exact ⟨rfl, (Ext.andThen (Ext.andThen (Ext.andThen (Ext.andThen (Ext.refl (fun k => Tc k) _) hx1 (by intro k h1 h2; first | exact (h2 : False).elim | exact h2 | (exfalso; (try simp only [] at *); omega))) hk2 (by intro k h1 h2; first | exact (h2 : False).elim | exact h2 | (exfalso; (try simp only [] at *); omega))) hx3 (by intro k h1 h2; first | exact (h2 : False).elim | exact h2 | (exfalso; (try simp only [] at *); omega))) hk4 (by intro k h1 h2; first | exact (h2 : False).elim | exact h2 | (exfalso; (try simp only [] at *); omega))), ⟨((h3.ext hx1 (by intro h; have := hsep _ h; omega)).keep ((hk2.step hx3 (by intros; (try simp only [] at *); omega)).trans hk4)), ((h2.ext hx1 (by intro h; have := hsep _ h; omega)).keep ((hk2.step hx3 (by intros; (try simp only [] at *); omega)).trans hk4))⟩, (hC1.keep ((hk2.step hx3 (by intros; (try simp only [] at *); omega)).trans hk4))⟩
theorem turn_stp (g : TH → Int) {B a b c3 c2 : Nat} {Tc : Nat → Prop} {xs0 : List TH} {fv p : Value} {w : World} (hbl : Blk w c3 [.iface 84 p] 33 ∧ Blk w c2 [fv] 60) (hC : Cur Try.prog evT (0, 0) NX B Tc p xs0 w) (hBa : B ≤ a) (hbw : b ≤ w.heap.size) (hT : ∀ k, Tc k → a ≤ k ∧ k < b) (h3 : a ≤ c3 ∧ c3 < b) (h2 : a ≤ c2 ∧ c2 < b) (hsep : ∀ k, Tc k → k ≠ c3 ∧ k ≠ c2) (hg : ∀ (x : TH) (wa : World), YC Try.prog fv [evT x] wa fun r wb => r = .int .i64 (g x) ∧ Keep wa wb) :
    Stp Try.prog evI 0 B (fun k => a ≤ k ∧ k < b) (.func (.func 58) #[] #[ptrV c3, ptrV c2]) (xs0.map g) w := by
  refine ⟨fun l w => ∃ xs, l = xs.map g ∧ b ≤ w.heap.size ∧ (Blk w c3 [.iface 84 p] 33 ∧ Blk w c2 [fv] 60) ∧ Cur Try.prog evT (0, 0) NX B Tc p xs w, ⟨xs0, rfl, hbw, hbl, hC⟩, ?_, ?_⟩
  · rintro l w w' ⟨xs, g1, g2, ⟨q3, q2⟩, g4⟩ ha
    have hz := ha.size
    exact ⟨xs, g1, by omega, ⟨ha.blk q3 h3, ha.blk q2 h2⟩, g4.agree (ha.sub hT)⟩
  · rintro l w ⟨xs, rfl, g2, g3, g4⟩
    refine YC.of_ret (args := []) (cap := [_, _]) ((Turn1_c g w g3 g4 (by omega) (fun k hk => by have := hsep k hk; have := hT k hk; omega) hg).mono ?_) Try.call58
    rintro r w' ⟨rfl, hx, hb, hc⟩
    have hz := hx.size
    refine ⟨rfl, hx.mono fun k _ hk => hT k hk, fun _ => ⟨xs.tail, by rw [List.map_tail], by omega, hb, hc⟩⟩
-- f36 "pedigree/merge.Turn[pedigree/pedigreeref09.Thing,int]" params [60, 33] results [58] -> [(ResultVar.tmp
set_option maxHeartbeats 4000000 in
set_option maxRecDepth 100000 in
theorem Turn_c (g : TH → Int) {B a0 b0 : Nat} {p : Value} {l0 : List TH} {fn : Fn} {bs ca : Array Value} (w : World) (h0 : CV B (fun k => a0 ≤ k ∧ k < b0) (.iface 84 p) l0 w) (hB : B ≤ a0) (hab : a0 ≤ b0) (hb : b0 ≤ w.heap.size) (hg : ∀ (x : TH) (wa : World), YC Try.prog (.func fn bs ca) [evT x] wa fun r wb => r = .int .i64 (g x) ∧ Keep wa wb) :
    Ret Try.prog 36 #[.func fn bs ca, .iface 84 p] w fun r w' => ∃ bm, r = .iface 92 (ptrV bm) ∧ Cur Try.prog evI 0 99 B (fun k => a0 ≤ k ∧ k < w'.heap.size) (ptrV bm) (l0.map g) w' ∧ Keep w w' := by
  refine X.enter Try.func36 rfl Try.ntmps36 rfl ?_
  refine X.seq ?_
  refine X.region ?_
  refine X.opE X.wN rfl (X.boxE rfl rfl) ?_
  rintro _ w1 ⟨rfl, hB1, hk1, hz1⟩
  refine X.opE X.wN rfl (X.boxE rfl rfl) ?_
  rintro _ w2 ⟨rfl, hB2, hk2, hz2⟩
  refine X.opw X.wN rfl (X.assign rfl) ?_
  refine X.opsEnd ?_
  refine X.seq ?_
  refine X.seq ?_
  refine X.region ?_
  refine X.opw X.wN rfl (X.load1B Try.isAgg60 (hB1.keep hk2) rfl rfl) ?_
  refine X.opw X.wN rfl (X.eqFn1 Try.underlying60 rfl rfl) ?_
  refine X.opw X.wN rfl (X.move (v := .bool false) rfl) ?_
  refine X.opw (X.wG rfl rfl rfl) rfl (X.load1B Try.isAgg33 hB2 rfl rfl) ?_
  refine X.opw (X.wG rfl rfl rfl) rfl (X.eqIf1 Try.underlying33 rfl rfl) ?_
  refine X.opw X.wN rfl (X.pickF (v := .bool false) rfl rfl) ?_
  refine X.opsEnd ?_
  refine X.condF rfl ?_
  refine X.skip ?_
  refine X.seq ?_
  refine X.region ?_
  refine X.opw X.wN rfl (X.mkFunc rfl) ?_
  refine X.opw X.wN rfl (X.buildB (vs := [(0, .func (.func 58) #[] #[ptrV (w1.heap.size), ptrV (w.heap.size)])]) (cs := #[.func (.func 58) #[] #[ptrV (w1.heap.size), ptrV (w.heap.size)], .bool false]) rfl (by kernel_rfl)) ?_
  refine X.opE X.wN rfl (X.boxE rfl rfl) ?_
  rintro _ w3 ⟨rfl, hB3, hk3, hz3⟩
  refine X.opw X.wN rfl (X.mkIface Try.underlying92 rfl rfl) ?_
  refine X.opw X.wN rfl (X.assign rfl) ?_
  refine X.opsEnd ?_
  refine X.ret1 Try.func36 Try.results36 rfl ?_
  refine ⟨w2.heap.size, rfl, ?_, ((hk1.trans hk2).trans hk3)⟩
  refine Cur.wide (Cur.made (turn_stp (a := a0) (b := w2.heap.size) g (Tc := fun k => a0 ≤ k ∧ k < b0) ⟨(hB2.keep hk3), (hB1.keep (hk2.trans hk3))⟩ (CV.cur (h0.keep ((hk1.trans hk2).trans hk3))) hB (by omega) (fun k hk => by omega) (by omega) (by omega) (fun k hk => by (try simp only [] at *); omega) hg) hB3 (by omega) (by (try simp only []); omega) (fun k hk => by omega) (fun w h => nexti_over _ _ w h) (fun xs w R h1 h2 h3 => nexti_step _ _ _ (by (try simp only []); omega) xs w R h1 h2 h3)) (fun k hk => ?_)
  rcases hk with hk | hk <;> omega
-- f32 "pedigree/pedigreelaw09.MergeCuts$1" params [29] results [4] -> [(ResultVar.tmp 3)] nfree 1 ntmps 8 nam
set_option maxHeartbeats 4000000 in
set_option maxRecDepth 100000 in
theorem cuts1_c (x : TH) (a : Int) (c : Nat) (w : World) (hB : Blk w c [.int .i8 a] 27) : Ret Try.prog 32 #[evT x, .pointer (some ⟨c, 0, none⟩)] w fun r w' => r = .bool (decide (a ≤ x.1)) ∧ Keep w w' := by
  refine X.enter Try.func32 rfl Try.ntmps32 rfl ?_
  refine X.seq ?_
  refine X.region ?_
  refine X.opE X.wN rfl (X.boxE rfl rfl) ?_
  rintro _ w1 ⟨rfl, hB1, hk1, hz1⟩
  refine X.opw X.wN rfl (X.assign rfl) ?_
  refine X.opsEnd ?_
  refine X.seq ?_
  refine X.region ?_
  refine X.opw X.wN rfl (X.fldB (j := 0) Try.underlying29 rfl rfl Try.sizeOf27 rfl) ?_
  refine X.opw X.wN rfl (X.load1B Try.isAgg27 hB1 rfl rfl) ?_
  refine X.opw X.wN rfl (X.load1B Try.isAgg27 (hB.keep hk1) rfl rfl) ?_
  refine X.opw X.wN rfl (X.geq rfl rfl) ?_
  refine X.opw X.wN rfl (X.assign (v := .bool _) rfl) ?_
  refine X.opsEnd ?_
  refine X.ret1 (v := (.bool _)) Try.func32 Try.results32 rfl ?_
  exact ⟨congrArg Value.bool (decide_eq_decide.2 ⟨fun h => by omega, fun h => by omega⟩), hk1⟩
-- f37 "pedigree/pedigreelaw09.MergeCuts$2" params [29] results [3] -> [(ResultVar.tmp 2)] nfree 0 ntmps 5 nam
set_option maxHeartbeats 4000000 in
set_option maxRecDepth 100000 in
theorem cuts2_c (x : TH) (w : World) : Ret Try.prog 37 #[evT x] w fun r w' => r = .int .i64 x.2 ∧ Keep w w' := by
  refine X.enter Try.func37 rfl Try.ntmps37 rfl ?_
  refine X.seq ?_
  refine X.region ?_
  refine X.opE X.wN rfl (X.boxE rfl rfl) ?_
  rintro _ w1 ⟨rfl, hB1, hk1, hz1⟩
  refine X.opw X.wN rfl (X.assign rfl) ?_
  refine X.opsEnd ?_
  refine X.seq ?_
  refine X.region ?_
  refine X.opw X.wN rfl (X.fldB (j := 1) Try.underlying29 rfl rfl Try.sizeOf3 rfl) ?_
  refine X.opw X.wN rfl (X.load1B Try.isAgg3 hB1 rfl rfl) ?_
  refine X.opw X.wN rfl (X.assign (v := .int .i64 _) rfl) ?_
  refine X.opsEnd ?_
  refine X.ret1 (v := (.int .i64 _)) Try.func37 Try.results37 rfl ?_
  exact ⟨rfl, hk1⟩
end Go.Proofs.Ytgfficbkajcdpaa
