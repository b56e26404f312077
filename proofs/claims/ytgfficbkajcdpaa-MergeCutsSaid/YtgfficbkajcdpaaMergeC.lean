/- What is left in a cursor. -/
import Derived.Test.YtgfficbkajcdpaaMergeB
import Derived.Test.YtgfficbkajcdpaaProg
namespace Go.Proofs.Ytgfficbkajcdpaa
open Go Go.Proofs.Ytgfficbkajcdpaa.X
set_option linter.unusedVariables false
set_option linter.unusedSimpArgs false
theorem next_m (p : Value) (w : World) : (method (Try.prog.types.size + Made.depth) 84 p "Next").run Try.prog w = .ok (98, p) w := by
  kernel_rfl
-- f15 "pedigree/pedigreelaw09.rest[pedigree/pedigreeref09.Thing]" params [33] results [24, 4] -> [(ResultVar.
set_option maxHeartbeats 4000000 in
set_option maxRecDepth 100000 in
theorem rest_c {B : Nat} {T : Nat → Prop} {p : Value} {xs : List TH} (w : World) (h : Cur Try.prog evT (0, 0) 98 B T p xs w) (hB : B ≤ w.heap.size) (hTb : ∀ k, T k → k < w.heap.size) (hxl : xs.length < 2000) : Ret Try.prog 15 #[.iface 84 p] w fun r w' => ∃ v, r = .tuple #[v, .bool true] ∧ Mine KTh 29 (fun k => w.heap.size ≤ k) 0 0 w' v xs ∧ Ext T w w' := by
  refine X.enter Try.func15 rfl Try.ntmps15 rfl ?_
  refine X.seq ?_
  refine X.region ?_
  refine X.opw X.wN rfl (X.assign rfl) ?_
  refine X.opw X.wN rfl (X.assign rfl) ?_
  refine X.opsEnd ?_
  refine X.seq ?_
  refine X.seq ?_
  refine X.region ?_
  refine X.opw X.wN rfl (X.move rfl) ?_
  refine X.opw X.wN rfl (X.eqIf1 Try.underlying33 rfl rfl) ?_
  refine X.opsEnd ?_
  refine X.condF rfl ?_
  refine X.skip ?_
  refine X.seq ?_
  refine X.region ?_
  refine X.opw X.wN rfl (X.assign rfl) ?_
  refine X.opsEnd ?_
  refine X.seq ?_
  refine X.seq ?_
  refine X.region ?_
  refine X.opw X.wN rfl (X.assign rfl) ?_
  refine X.opsEnd ?_
  refine X.block ?_
  -- LOOP live: 0=c, 4=out*, 5=i*
  refine X.loopL (σ := Nat × Value × List TH × List TH) (fun s => [(0, .iface 84 p), (4, s.2.1), (5, .int .i64 (s.1 : Int))]) (fun s w' => s.1 = s.2.2.1.length ∧ s.2.2.1 ++ s.2.2.2 = xs ∧ Mine KTh 29 (fun k => w.heap.size ≤ k) 0 0 w' s.2.1 s.2.2.1 ∧ Cur Try.prog evT (0, 0) 98 B T p s.2.2.2 w' ∧ Ext T w w') (fun s => 2000 - s.1) (0, _, [], xs) ⟨rfl, rfl, rfl, trivial⟩ ⟨rfl, rfl, Mine.nil _ _ _ _ _ _, h, Ext.refl _ _⟩ ?_
  rintro ⟨i, v, ds, ys⟩ b0 wl ⟨hi, hxs, hM, hC, hE⟩ hback
  dsimp only
  simp only at hi hxs hM hC
  have hE' := hE.size
  have hlen : ds.length + ys.length = xs.length := by rw [← hxs, List.length_append]
  refine X.seq ?_
  refine X.seq ?_
  refine X.region ?_
  refine X.opw X.wN rfl (X.move (v := .int .i64 _) rfl) ?_
  refine X.opP X.wN rfl rfl (X.lss rfl rfl) (fun h13 => ?_) (fun h13 => ?_)
  · refine X.opsEnd ?_
    refine X.condT rfl ?_
    refine X.skip ?_
    refine X.seq ?_
    refine X.block ?_
    refine X.seq ?_
    refine X.region ?_
    refine X.opw X.wN rfl (X.move rfl) ?_
    refine X.opE X.wN rfl (X.invokeE rfl (next_m _) hC.next Try.call98) ?_
    rintro _ w1 ⟨rfl, hx1, hC1⟩
    have hx1' := hx1.size
    refine X.opw X.wN rfl (X.move rfl) ?_
    refine X.opw X.wN rfl (X.extr rfl rfl) ?_
    refine X.opw X.wN rfl (X.extr rfl rfl) ?_
    refine X.opE X.wN rfl (X.allocE Try.zeroValue29 rfl) ?_
    rintro _ w2 ⟨rfl, hB2, hk2, hz2⟩
    refine X.opE X.wN rfl (X.storeNE Try.sizeOf29 hB2 rfl rfl rfl rfl (fun u hu => by simp at hu; rcases hu with rfl | rfl <;> rfl)) ?_
    rintro _ w3 ⟨hB3, hx3, hz3⟩
    refine X.opw X.wN rfl (X.assign (v := .bool _) rfl) ?_
    refine X.opsEnd ?_
    refine X.seq ?_
    refine X.seq ?_
    refine X.region ?_
    refine X.opw X.wN rfl (X.move (v := .bool _) rfl) ?_
    refine X.opw X.wN rfl (X.not_ rfl) ?_
    refine X.opsEnd ?_
    refine X.condB rfl (fun hc => ?_) (fun hc => ?_)
    · cases ys with
      | cons y ys => simp at hc
      | nil =>
      refine X.seq ?_
      refine X.region ?_
      refine X.opw X.wN rfl (X.move rfl) ?_
      refine X.opE X.wN rfl (X.invokeE rfl (next_m _) (hC1.keep (hk2.step hx3 (by intros; (try simp only [] at *); omega))).next Try.call98) ?_
      rintro _ w4 ⟨rfl, hx4, hC4⟩
      have hx4' := hx4.size
      refine X.opw X.wN rfl (X.move rfl) ?_
      refine X.opw X.wN rfl (X.extr rfl rfl) ?_
      refine X.opw X.wN rfl (X.extr rfl rfl) ?_
      refine X.opE X.wN rfl (X.allocE Try.zeroValue29 rfl) ?_
      rintro _ w5 ⟨rfl, hB5, hk5, hz5⟩
      refine X.opE X.wN rfl (X.storeNE Try.sizeOf29 hB5 rfl rfl rfl rfl (fun u hu => by simp at hu; rcases hu with rfl | rfl <;> rfl)) ?_
      rintro _ w6 ⟨hB6, hx6, hz6⟩
      refine X.opw X.wN rfl (X.assign (v := .bool _) rfl) ?_
      refine X.opsEnd ?_
      refine X.seq ?_
      refine X.region ?_
      refine X.opw X.wN rfl (X.move rfl) ?_
      refine X.opw X.wN rfl (X.move (v := .bool _) rfl) ?_
      refine X.opw X.wN rfl (X.not_ rfl) ?_
      refine X.opw X.wN rfl (X.assign rfl) ?_
      refine X.opw X.wN rfl (X.assign (v := .bool _) rfl) ?_
      refine X.opsEnd ?_
      refine X.ret2 (v2 := (.bool _)) Try.func15 Try.results15 rfl rfl ?_
      exact ⟨_, rfl, (by rw [List.append_nil] at hxs; rw [← hxs]; exact ((((hM.ext hx1 (by intro k h1 h2; omega) (fun k hk ht => by have := hTb k ht; omega)).keep (hk2.step hx3 (by intros; (try simp only [] at *); omega))).ext hx4 (by intro k h1 h2; omega) (fun k hk ht => by have := hTb k ht; omega)).keep (hk5.step hx6 (by intros; (try simp only [] at *); omega)))), (Ext.andThen (Ext.andThen (Ext.andThen (Ext.andThen (Ext.andThen (Ext.andThen hE hx1 (by intro k h1 h2; first | exact h2 | exact .inl h2 | exact .inr h2 | exact (h2 : False).elim | (exfalso; (try simp only [] at *); omega))) hk2 (by intro k h1 h2; first | exact h2 | exact .inl h2 | exact .inr h2 | exact (h2 : False).elim | (exfalso; (try simp only [] at *); omega))) hx3 (by intro k h1 h2; first | exact h2 | exact .inl h2 | exact .inr h2 | exact (h2 : False).elim | (exfalso; (try simp only [] at *); omega))) hx4 (by intro k h1 h2; first | exact h2 | exact .inl h2 | exact .inr h2 | exact (h2 : False).elim | (exfalso; (try simp only [] at *); omega))) hk5 (by intro k h1 h2; first | exact h2 | exact .inl h2 | exact .inr h2 | exact (h2 : False).elim | (exfalso; (try simp only [] at *); omega))) hx6 (by intro k h1 h2; first | exact h2 | exact .inl h2 | exact .inr h2 | exact (h2 : False).elim | (exfalso; (try simp only [] at *); omega)))⟩
    · cases ys with
      | nil => simp at hc
      | cons y ys =>
      refine X.skip ?_
      refine X.region ?_
      refine X.opw X.wN rfl (X.move rfl) ?_
      refine X.opw X.wN rfl (X.loadNB Try.isAgg29 Try.sizeOf29 hB3 rfl rfl rfl) ?_
      refine X.opE X.wN rfl (X.litKF KTh_flat (K := KTh) (xs := [Operand.tmp 32]) (vs := [evT y]) (ys := [y]) Try.underlying24 Try.sizeOf29 Try.zeroValue29 rfl rfl rfl rfl rfl (repsT y)) ?_
      rintro _ w7 ⟨rfl, hs7, hB7, hk7, hz7⟩
      refine X.opE X.wN rfl (X.appE (K := KTh) (S := fun k => w.heap.size ≤ k) KTh_flat Try.underlying24 ETh rfl rfl ((hM.ext hx1 (by intro k h1 h2; omega) (fun k hk ht => by have := hTb k ht; omega)).keep ((hk2.step hx3 (by intros; (try simp only [] at *); omega)).trans hk7)) hs7 (by (try simp only [List.length_append, List.length_cons, List.length_nil, List.length_take, List.length_drop, List.length_map, List.length_range]); omega) (by intros; (try simp only [] at *); omega)) ?_
      rintro v8 w8 ⟨hM8, hx8⟩
      have hx8' := hx8.size
      refine X.opw X.wN rfl (X.assign rfl) ?_
      refine X.opsEnd ?_
      refine X.inBlock ?_
      refine X.region ?_
      refine X.opw X.wN rfl (X.move (v := .int .i64 _) rfl) ?_
      refine X.opw X.wN rfl (X.add rfl rfl (X.w_i64 (by omega))) ?_
      refine X.opw X.wN rfl (X.assign (v := .int .i64 _) rfl) ?_
      refine X.opsEnd ?_
      refine hback (i + 1, _, ds ++ [y], ys) _ _ ⟨rfl, rfl, rfl, trivial⟩ ⟨by dsimp only; rw [List.length_append, hi]; rfl, by dsimp only; rw [← hxs]; simp, hM8, ((hC1.keep ((hk2.step hx3 (by intros; (try simp only [] at *); omega)).trans hk7)).ext hx8 (by intro k hk hk2; refine ⟨by (try simp only [] at *); omega, fun ht => by have := hTb k ht; (try simp only [] at *); omega⟩)), (Ext.andThen (Ext.andThen (Ext.andThen (Ext.andThen (Ext.andThen hE hx1 (by intro k h1 h2; first | exact h2 | exact .inl h2 | exact .inr h2 | exact (h2 : False).elim | (exfalso; (try simp only [] at *); omega))) hk2 (by intro k h1 h2; first | exact h2 | exact .inl h2 | exact .inr h2 | exact (h2 : False).elim | (exfalso; (try simp only [] at *); omega))) hx3 (by intro k h1 h2; first | exact h2 | exact .inl h2 | exact .inr h2 | exact (h2 : False).elim | (exfalso; (try simp only [] at *); omega))) hk7 (by intro k h1 h2; first | exact h2 | exact .inl h2 | exact .inr h2 | exact (h2 : False).elim | (exfalso; (try simp only [] at *); omega))) hx8 (by intro k h1 h2; first | exact h2 | exact .inl h2 | exact .inr h2 | exact (h2 : False).elim | (exfalso; (try simp only [] at *); omega)))⟩ (by dsimp only; omega)
  · refine X.opsEnd ?_
    refine X.condF rfl ?_
    refine X.exit rfl ?_
    refine X.seq ?_
    refine X.region ?_
    refine X.opw X.wN rfl (X.move rfl) ?_
    refine X.opw X.wN rfl (X.assign rfl) ?_
    refine X.opw X.wN rfl (X.assign rfl) ?_
    refine X.opsEnd ?_
    refine X.ret2 (v2 := (.bool _)) Try.func15 Try.results15 rfl rfl ?_
    omega
end Go.Proofs.Ytgfficbkajcdpaa
