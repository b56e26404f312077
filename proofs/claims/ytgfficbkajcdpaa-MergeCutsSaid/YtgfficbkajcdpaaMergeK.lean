/- What one cursor holds of another. -/
import Derived.Test.YtgfficbkajcdpaaMergeJ
import Derived.Test.YtgfficbkajcdpaaProg
namespace Go.Proofs.Ytgfficbkajcdpaa
open Go Go.Proofs.Ytgfficbkajcdpaa.X
set_option linter.unusedVariables false
set_option linter.unusedSimpArgs false
def skipT (x : TH) (ys : List TH) : List TH := ys.dropWhile fun y => decide (y.1 < x.1)
def hasT (x : TH) (ys : List TH) : Bool := match skipT x ys with
  | [] => false
  | y :: _ => decide (y.1 = x.1)
theorem skip_go {x y : TH} {l : List TH} (h : y.1 < x.1) : skipT x (y :: l) = skipT x l ∧ hasT x (y :: l) = hasT x l := by
  have : skipT x (y :: l) = skipT x l := by simp [skipT, h]
  exact ⟨this, by rw [hasT, hasT, this]⟩
theorem skip_stop {x y : TH} {l : List TH} (h : ¬ y.1 < x.1) : skipT x (y :: l) = y :: l ∧ hasT x (y :: l) = decide (y.1 = x.1) := by
  have : skipT x (y :: l) = y :: l := by simp [skipT, h]
  exact ⟨this, by rw [hasT, this]⟩
/-- The xs that ys has (or has not), both rising. -/
def heldL (t : Bool) : List TH → List TH → List TH
  | [], _ => []
  | x :: xs, ys => if hasT x ys = t then x :: heldL t xs (skipT x ys) else heldL t xs (skipT x ys)
def CmpOk (cv : Value) : Prop := ∀ (x y : TH) (wa : World), YC Try.prog cv [evT x, evT y] wa fun r wb => ∃ nc, r = .int .i64 nc ∧ (nc < 0 ↔ x.1 < y.1) ∧ (0 < nc ↔ y.1 < x.1) ∧ Keep wa wb
theorem cmpOk17 : CmpOk (.func (.func 17) #[] #[]) := fun x y wa => YC.of_ret (args := [_, _]) (cap := []) (Compare_c x y wa) Try.call17
-- f66 "pedigree/merge.held[pedigree/pedigreeref09.Thing]$1" params [29] results [4] -> [(ResultVar.tmp 4)] nf
set_option maxHeartbeats 4000000 in
set_option maxRecDepth 100000 in
theorem has_c (x : TH) {B hb c9 c4 : Nat} {Tt : Nat → Prop} {ys : List TH} {cv : Value} (w : World) (h9 : Blk w c9 [ptrV hb] 85) (h4 : Blk w c4 [cv] 35) (hd : Hd B Tt hb ys w) (hBs : B ≤ w.heap.size) (hBh : B ≤ hb) (hbl : hb < w.heap.size) (hTh : ¬ Tt hb) (hTb : ∀ k, Tt k → k < w.heap.size) (hsep : ∀ k, (Tt k ∨ k = hb) → k ≠ c9 ∧ k ≠ c4) (hcmp : CmpOk cv) :
    Ret Try.prog 66 #[evT x, .pointer (some ⟨c9, 0, none⟩), .pointer (some ⟨c4, 0, none⟩)] w fun r w' => r = .bool (hasT x ys) ∧ Hd B Tt hb (skipT x ys) w' ∧ Ext (fun k => Tt k ∨ k = hb) w w' := by
  have h9l := h9.lt
  have h4l := h4.lt
  refine X.enter Try.func66 rfl Try.ntmps66 rfl ?_
  refine X.seq ?_
  refine X.region ?_
  refine X.opE X.wN rfl (X.boxE rfl rfl) ?_
  rintro _ w1 ⟨rfl, hB1, hk1, hz1⟩
  refine X.opw X.wN rfl (X.assign rfl) ?_
  refine X.opsEnd ?_
  refine X.block ?_
  -- LOOP live: 1, 2, 3=x
  refine X.loopL (σ := List TH) (fun s => [(1, .pointer (some ⟨c9, 0, none⟩)), (2, .pointer (some ⟨c4, 0, none⟩)), (3, .pointer (some ⟨w.heap.size, 0, none⟩))]) (fun s w' => skipT x s = skipT x ys ∧ hasT x s = hasT x ys ∧ Blk w' c9 [ptrV hb] 85 ∧ Blk w' c4 [cv] 35 ∧ Blk w' w.heap.size [.int .i8 x.1, .int .i64 x.2] 29 ∧ Hd B Tt hb s w' ∧ Ext (fun k => Tt k ∨ k = hb) w w' ∧ w.heap.size < w'.heap.size) (fun s => s.length) ys ⟨rfl, rfl, rfl, trivial⟩ ⟨rfl, rfl, (h9.keep hk1), (h4.keep hk1), hB1, hd.ext hk1 (fun _ _ h => h.elim), hk1.mono (fun _ _ h => h.elim), by omega⟩ ?_
  rintro l b0 wl ⟨hs1, hs2, hBp, hBq, hBr, hHd, hE, hwl⟩ hback
  refine X.block ?_
  refine X.seq ?_
  refine X.region ?_
  refine X.opw X.wN rfl (X.load1B Try.isAgg85 hBp rfl rfl) ?_
  refine X.opE X.wN rfl (X.callE (look_c _ hHd (by omega) hBh hTh (fun k hk => by have := hTb k hk; omega)) Try.call48 rfl rfl) ?_
  rintro _ w2 ⟨y2, rfl, hH2, hx2⟩
  have hx2' := hx2.size
  refine X.opw X.wN rfl (X.move rfl) ?_
  refine X.opw X.wN rfl (X.extr rfl rfl) ?_
  refine X.opw X.wN rfl (X.extr rfl rfl) ?_
  refine X.opE X.wN rfl (X.allocE Try.zeroValue29 rfl) ?_
  rintro _ w3 ⟨rfl, hB3, hk3, hz3⟩
  refine X.opE X.wN rfl (X.storeNE Try.sizeOf29 hB3 rfl rfl rfl rfl (fun u hu => by simp at hu; rcases hu with rfl | rfl <;> rfl)) ?_
  rintro _ w4 ⟨hB4, hx4, hz4⟩
  refine X.opw X.wN rfl (X.assign (v := .bool _) rfl) ?_
  refine X.opsEnd ?_
  refine X.seq ?_
  refine X.seq ?_
  refine X.region ?_
  refine X.opw X.wN rfl (X.move (v := .bool _) rfl) ?_
  refine X.opw X.wN rfl (X.not_ rfl) ?_
  refine X.opsEnd ?_
  refine X.condB rfl (fun hc => ?_) (fun hc => ?_)
  · obtain rfl : l = [] := by simpa using hc
    refine X.seq ?_
    refine X.region ?_
    refine X.opw X.wN rfl (X.assign rfl) ?_
    refine X.opsEnd ?_
    refine X.ret1 (v := (.bool _)) Try.func66 Try.results66 rfl ?_
    rw [← hs1, ← hs2]
    exact ⟨rfl, .inr ⟨_, hH2.ext (Ext.andThen (Ext.andThen (Ext.refl (fun k => w.heap.size ≤ k) _) hk3 (by intro k h1 h2; first | exact (h2 : False).elim | omega | ((try simp only [] at *); omega))) hx4 (by intro k h1 h2; first | exact (h2 : False).elim | omega | ((try simp only [] at *); omega))) (fun k hk h => ⟨by omega, fun ht => by have := hTb k ht; omega, by omega⟩)⟩, (Ext.andThen (Ext.andThen (Ext.andThen hE hx2 (by intro k h1 h2; first | exact h2 | exact .inr h2 | exact (h2 : False).elim | (exfalso; (try simp only [] at *); omega))) hk3 (by intro k h1 h2; first | exact h2 | exact .inr h2 | exact (h2 : False).elim | (exfalso; (try simp only [] at *); omega))) hx4 (by intro k h1 h2; first | exact h2 | exact .inr h2 | exact (h2 : False).elim | (exfalso; (try simp only [] at *); omega)))⟩
  · obtain ⟨ys', rfl⟩ : ∃ ys', l = y2 :: ys' := by
      cases l with
      | nil => simp at hc
      | cons z l => exact ⟨l, by rw [hH2.head]⟩
    have hHy := hH2
    refine X.skip ?_
    refine X.seq ?_
    refine X.region ?_
    refine X.opw X.wN rfl (X.load1B Try.isAgg35 ((hBq.ext hx2 (fun h => (hsep _ h).2 rfl)).keep (hk3.step hx4 (by intros; (try simp only [] at *); omega))) rfl rfl) ?_
    refine X.opw X.wN rfl (X.loadNB Try.isAgg29 Try.sizeOf29 hB4 rfl rfl rfl) ?_
    refine X.opw X.wN rfl (X.loadNB Try.isAgg29 Try.sizeOf29 ((hBr.ext hx2 (by intro h; exact Or.elim h (fun h => by have := hTb _ h; omega) (fun h => by omega))).keep (hk3.step hx4 (by intros; (try simp only [] at *); omega))) rfl rfl rfl) ?_
    refine X.opE X.wN rfl ((hcmp _ x _) _ _ _ _ _ _ _ _ _ rfl rfl) ?_
    rintro _ w5 ⟨nc5, rfl, hlt5, hgt5, hk5⟩
    have hk5' := hk5.size
    refine X.opw X.wN rfl (X.assign (v := .int .i64 _) rfl) ?_
    refine X.opsEnd ?_
    refine X.seq ?_
    refine X.seq ?_
    refine X.region ?_
    refine X.opw X.wN rfl (X.move (v := .int .i64 _) rfl) ?_
    refine X.opP X.wN rfl rfl (X.geq rfl rfl) (fun h20 => ?_) (fun h20 => ?_)
    · have hyx : ¬ y2.1 < x.1 := fun h => by have := hlt5.2 h; omega
      refine X.opsEnd ?_
      refine X.condT rfl ?_
      refine X.seq ?_
      refine X.region ?_
      refine X.opw X.wN rfl (X.move (v := .int .i64 _) rfl) ?_
      refine X.opw X.wN rfl (X.eqI rfl rfl) ?_
      refine X.opw X.wN rfl (X.assign (v := .bool _) rfl) ?_
      refine X.opsEnd ?_
      refine X.ret1 (v := (.bool _)) Try.func66 Try.results66 rfl ?_
      rw [← hs1, ← hs2, (skip_stop hyx).1, (skip_stop hyx).2]
      exact ⟨congrArg Value.bool (decide_eq_decide.2 ⟨fun h => by have := mt hgt5.2 (by omega); omega, fun h => by have := mt hlt5.1 (by omega); have := mt hgt5.1 (by omega); omega⟩), .inr ⟨_, hHy.ext (Ext.andThen (Ext.andThen (Ext.andThen (Ext.refl (fun k => w.heap.size ≤ k) _) hk3 (by intro k h1 h2; first | exact (h2 : False).elim | omega | ((try simp only [] at *); omega))) hx4 (by intro k h1 h2; first | exact (h2 : False).elim | omega | ((try simp only [] at *); omega))) hk5 (by intro k h1 h2; first | exact (h2 : False).elim | omega | ((try simp only [] at *); omega))) (fun k hk h => ⟨by omega, fun ht => by have := hTb k ht; omega, by omega⟩)⟩, (Ext.andThen (Ext.andThen (Ext.andThen (Ext.andThen hE hx2 (by intro k h1 h2; first | exact h2 | exact .inr h2 | exact (h2 : False).elim | (exfalso; (try simp only [] at *); omega))) hk3 (by intro k h1 h2; first | exact h2 | exact .inr h2 | exact (h2 : False).elim | (exfalso; (try simp only [] at *); omega))) hx4 (by intro k h1 h2; first | exact h2 | exact .inr h2 | exact (h2 : False).elim | (exfalso; (try simp only [] at *); omega))) hk5 (by intro k h1 h2; first | exact h2 | exact .inr h2 | exact (h2 : False).elim | (exfalso; (try simp only [] at *); omega)))⟩
    · have hyx : y2.1 < x.1 := hlt5.1 (by omega)
      refine X.opsEnd ?_
      refine X.condF rfl ?_
      refine X.skip ?_
      refine X.region ?_
      refine X.opw X.wN rfl (X.load1B Try.isAgg85 ((hBp.ext hx2 (fun h => (hsep _ h).1 rfl)).keep ((hk3.step hx4 (by intros; (try simp only [] at *); omega)).trans hk5)) rfl rfl) ?_
      refine X.opE X.wN rfl (X.callE (pass_c _ (hHy.ext (Ext.andThen (Ext.andThen (Ext.andThen (Ext.refl (fun k => w.heap.size ≤ k) _) hk3 (by intro k h1 h2; first | exact (h2 : False).elim | omega | ((try simp only [] at *); omega))) hx4 (by intro k h1 h2; first | exact (h2 : False).elim | omega | ((try simp only [] at *); omega))) hk5 (by intro k h1 h2; first | exact (h2 : False).elim | omega | ((try simp only [] at *); omega))) (fun k hk h => ⟨by omega, fun ht => by have := hTb k ht; omega, by omega⟩)) hBh hTh) Try.call49 rfl rfl) ?_
      rintro _ w6 ⟨rfl, hH6, hx6⟩
      have hx6' := hx6.size
      refine X.opsEnd ?_
      refine X.inBlock ?_
      refine hback ys' _ _ ⟨rfl, rfl, rfl, trivial⟩ ⟨(skip_go hyx).1.symm.trans hs1, (skip_go hyx).2.symm.trans hs2, (((hBp.ext hx2 (fun h => (hsep _ h).1 rfl)).keep ((hk3.step hx4 (by intros; (try simp only [] at *); omega)).trans hk5)).ext hx6 (fun h => (hsep _ (.inr h)).1 rfl)), (((hBq.ext hx2 (fun h => (hsep _ h).2 rfl)).keep ((hk3.step hx4 (by intros; (try simp only [] at *); omega)).trans hk5)).ext hx6 (fun h => (hsep _ (.inr h)).2 rfl)), (((hBr.ext hx2 (by intro h; exact Or.elim h (fun h => by have := hTb _ h; omega) (fun h => by omega))).keep ((hk3.step hx4 (by intros; (try simp only [] at *); omega)).trans hk5)).ext hx6 (by intro h; have h : _ = hb := h; omega)), hH6, (Ext.andThen (Ext.andThen (Ext.andThen (Ext.andThen (Ext.andThen hE hx2 (by intro k h1 h2; first | exact h2 | exact .inr h2 | exact (h2 : False).elim | (exfalso; (try simp only [] at *); omega))) hk3 (by intro k h1 h2; first | exact h2 | exact .inr h2 | exact (h2 : False).elim | (exfalso; (try simp only [] at *); omega))) hx4 (by intro k h1 h2; first | exact h2 | exact .inr h2 | exact (h2 : False).elim | (exfalso; (try simp only [] at *); omega))) hk5 (by intro k h1 h2; first | exact h2 | exact .inr h2 | exact (h2 : False).elim | (exfalso; (try simp only [] at *); omega))) hx6 (by intro k h1 h2; first | exact h2 | exact .inr h2 | exact (h2 : False).elim | (exfalso; (try simp only [] at *); omega))), by omega⟩ (by simp)
end Go.Proofs.Ytgfficbkajcdpaa
