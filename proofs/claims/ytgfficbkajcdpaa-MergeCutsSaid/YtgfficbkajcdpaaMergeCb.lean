/- Rest of a cursor that leaves something behind; cursors of numbers. -/
import Derived.Test.YtgfficbkajcdpaaMergeCa
import Derived.Test.YtgfficbkajcdpaaProg
namespace Go.Proofs.Ytgfficbkajcdpaa
open Go Go.Proofs.Ytgfficbkajcdpaa.X
set_option linter.unusedVariables false
set_option linter.unusedSimpArgs false
-- f15 "pedigree/pedigreelaw09.rest[pedigree/pedigreeref09.Thing]" params [33] results [24, 4] -> [(ResultVar.
set_option maxHeartbeats 4000000 in
set_option maxRecDepth 100000 in
theorem rest_cQ {Q : World → Prop} {B : Nat} {T : Nat → Prop} {p : Value} {xs : List TH} (w : World) (h : CurQ Try.prog evT (0, 0) 98 B T p xs w Q) (hB : B ≤ w.heap.size) (hTb : ∀ k, T k → k < w.heap.size) (hxl : xs.length < 2000) : Ret Try.prog 15 #[.iface 84 p] w fun r w' => ∃ v, r = .tuple #[v, .bool true] ∧ Mine KTh 29 (fun k => w.heap.size ≤ k) 0 0 w' v xs ∧ Ext T w w' ∧ Q w' := by
  refine X.enter Try.func15 rfl Try.ntmps15 rfl ?_
  refine X.seq ?_
  refine X.region ?_
  refine X.opw X.wN rfl (X.assign rfl) ?_
  refine X.opw X.wN rfl (X.assign rfl) ?_
  refine X.opsEnd ?_
  refine X.seq ?_
  refine X.seq ?_
  refine X.region ?_
  refine X.opw X.wN rfl (X.move rfl) ?_
  refine X.opw X.wN rfl (X.eqIf1 Try.underlying33 rfl rfl) ?_
  refine X.opsEnd ?_
  refine X.condF rfl ?_
  refine X.skip ?_
  refine X.seq ?_
  refine X.region ?_
  refine X.opw X.wN rfl (X.assign rfl) ?_
  refine X.opsEnd ?_
  refine X.seq ?_
  refine X.seq ?_
  refine X.region ?_
  refine X.opw X.wN rfl (X.assign rfl) ?_
  refine X.opsEnd ?_
  refine X.block ?_
  -- LOOP live: 0=c, 4=out*, 5=i*
  refine X.loopL (σ := Nat × Value × List TH × List TH) (fun s => [(0, .iface 84 p), (4, s.2.1), (5, .int .i64 (s.1 : Int))]) (fun s w' => s.1 = s.2.2.1.length ∧ s.2.2.1 ++ s.2.2.2 = xs ∧ Mine KTh 29 (fun k => w.heap.size ≤ k) 0 0 w' s.2.1 s.2.2.1 ∧ CurQ Try.prog evT (0, 0) 98 B T p s.2.2.2 w' Q ∧ Ext T w w') (fun s => 2000 - s.1) (0, _, [], xs) ⟨rfl, rfl, rfl, trivial⟩ ⟨rfl, rfl, Mine.nil _ _ _ _ _ _, h, Ext.refl _ _⟩ ?_
  rintro ⟨i, v, ds, ys⟩ b0 wl ⟨hi, hxs, hM, hC, hE⟩ hback
  dsimp only
  simp only at hi hxs hM hC
  have hE' := hE.size
  have hlen : ds.length + ys.length = xs.length := by rw [← hxs, List.length_append]
  refine X.seq ?_
  refine X.seq ?_
  refine X.region ?_
  refine X.opw X.wN rfl (X.move (v := .int .i64 _) rfl) ?_
  refine X.opP X.wN rfl rfl (X.lss rfl rfl) (fun h13 => ?_) (fun h13 => ?_)
  · refine X.opsEnd ?_
    refine X.condT rfl ?_
    refine X.skip ?_
    refine X.seq ?_
    refine X.block ?_
    refine X.seq ?_
    refine X.region ?_
    refine X.opw X.wN rfl (X.move rfl) ?_
    refine X.opE X.wN rfl (X.invokeE rfl (next_m _) hC.next Try.call98) ?_
    rintro _ w1 ⟨rfl, hx1, hC1⟩
    have hx1' := hx1.size
    refine X.opw X.wN rfl (X.move rfl) ?_
    refine X.opw X.wN rfl (X.extr rfl rfl) ?_
    refine X.opw X.wN rfl (X.extr rfl rfl) ?_
    refine X.opE X.wN rfl (X.allocE Try.zeroValue29 rfl) ?_
    rintro _ w2 ⟨rfl, hB2, hk2, hz2⟩
    refine X.opE X.wN rfl (X.storeNE Try.sizeOf29 hB2 rfl rfl rfl rfl (fun u hu => by simp at hu; rcases hu with rfl | rfl <;> rfl)) ?_
    rintro _ w3 ⟨hB3, hx3, hz3⟩
    refine X.opw X.wN rfl (X.assign (v := .bool _) rfl) ?_
    refine X.opsEnd ?_
    refine X.seq ?_
    refine X.seq ?_
    refine X.region ?_
    refine X.opw X.wN rfl (X.move (v := .bool _) rfl) ?_
    refine X.opw X.wN rfl (X.not_ rfl) ?_
    refine X.opsEnd ?_
    refine X.condB rfl (fun hc => ?_) (fun hc => ?_)
    · cases ys with
      | cons y ys => simp at hc
      | nil =>
      refine X.seq ?_
      refine X.region ?_
      refine X.opw X.wN rfl (X.move rfl) ?_
      refine X.opE X.wN rfl (X.invokeE rfl (next_m _) (hC1.keep (hk2.step hx3 (by intros; (try simp only [] at *); omega))).next Try.call98) ?_
      rintro _ w4 ⟨rfl, hx4, hC4⟩
      have hx4' := hx4.size
      refine X.opw X.wN rfl (X.move rfl) ?_
      refine X.opw X.wN rfl (X.extr rfl rfl) ?_
      refine X.opw X.wN rfl (X.extr rfl rfl) ?_
      refine X.opE X.wN rfl (X.allocE Try.zeroValue29 rfl) ?_
      rintro _ w5 ⟨rfl, hB5, hk5, hz5⟩
      refine X.opE X.wN rfl (X.storeNE Try.sizeOf29 hB5 rfl rfl rfl rfl (fun u hu => by simp at hu; rcases hu with rfl | rfl <;> rfl)) ?_
      rintro _ w6 ⟨hB6, hx6, hz6⟩
      refine X.opw X.wN rfl (X.assign (v := .bool _) rfl) ?_
      refine X.opsEnd ?_
      refine X.seq ?_
      refine X.region ?_
      refine X.opw X.wN rfl (X.move rfl) ?_
      refine X.opw X.wN rfl (X.move (v := .bool _) rfl) ?_
      refine X.opw X.wN rfl (X.not_ rfl) ?_
      refine X.opw X.wN rfl (X.assign rfl) ?_
      refine X.opw X.wN rfl (X.assign (v := .bool _) rfl) ?_
      refine X.opsEnd ?_
      refine X.ret2 (v2 := (.bool _)) Try.func15 Try.results15 rfl rfl ?_
      exact ⟨_, rfl, (by rw [List.append_nil] at hxs; rw [← hxs]; exact ((((hM.ext hx1 (by intro k h1 h2; omega) (fun k hk ht => by have := hTb k ht; omega)).keep (hk2.step hx3 (by intros; (try simp only [] at *); omega))).ext hx4 (by intro k h1 h2; omega) (fun k hk ht => by have := hTb k ht; omega)).keep (hk5.step hx6 (by intros; (try simp only [] at *); omega)))), (Ext.andThen (Ext.andThen (Ext.andThen (Ext.andThen (Ext.andThen (Ext.andThen hE hx1 (by intro k h1 h2; first | exact h2 | exact .inl h2 | exact .inr h2 | exact (h2 : False).elim | (exfalso; (try simp only [] at *); omega))) hk2 (by intro k h1 h2; first | exact h2 | exact .inl h2 | exact .inr h2 | exact (h2 : False).elim | (exfalso; (try simp only [] at *); omega))) hx3 (by intro k h1 h2; first | exact h2 | exact .inl h2 | exact .inr h2 | exact (h2 : False).elim | (exfalso; (try simp only [] at *); omega))) hx4 (by intro k h1 h2; first | exact h2 | exact .inl h2 | exact .inr h2 | exact (h2 : False).elim | (exfalso; (try simp only [] at *); omega))) hk5 (by intro k h1 h2; first | exact h2 | exact .inl h2 | exact .inr h2 | exact (h2 : False).elim | (exfalso; (try simp only [] at *); omega))) hx6 (by intro k h1 h2; first | exact h2 | exact .inl h2 | exact .inr h2 | exact (h2 : False).elim | (exfalso; (try simp only [] at *); omega))), ((hC4.keep (hk5.step hx6 (by intros; (try simp only [] at *); omega)))).nil⟩
    · cases ys with
      | nil => simp at hc
      | cons y ys =>
      refine X.skip ?_
      refine X.region ?_
      refine X.opw X.wN rfl (X.move rfl) ?_
      refine X.opw X.wN rfl (X.loadNB Try.isAgg29 Try.sizeOf29 hB3 rfl rfl rfl) ?_
      refine X.opE X.wN rfl (X.litKF KTh_flat (K := KTh) (xs := [Operand.tmp 32]) (vs := [evT y]) (ys := [y]) Try.underlying24 Try.sizeOf29 Try.zeroValue29 rfl rfl rfl rfl rfl (repsT y)) ?_
      rintro _ w7 ⟨rfl, hs7, hB7, hk7, hz7⟩
      refine X.opE X.wN rfl (X.appE (K := KTh) (S := fun k => w.heap.size ≤ k) KTh_flat Try.underlying24 ETh rfl rfl ((hM.ext hx1 (by intro k h1 h2; omega) (fun k hk ht => by have := hTb k ht; omega)).keep ((hk2.step hx3 (by intros; (try simp only [] at *); omega)).trans hk7)) hs7 (by (try simp only [List.length_append, List.length_cons, List.length_nil, List.length_take, List.length_drop, List.length_map, List.length_range]); omega) (by intros; (try simp only [] at *); omega)) ?_
      rintro v8 w8 ⟨hM8, hx8⟩
      have hx8' := hx8.size
      refine X.opw X.wN rfl (X.assign rfl) ?_
      refine X.opsEnd ?_
      refine X.inBlock ?_
      refine X.region ?_
      refine X.opw X.wN rfl (X.move (v := .int .i64 _) rfl) ?_
      refine X.opw X.wN rfl (X.add rfl rfl (X.w_i64 (by omega))) ?_
      refine X.opw X.wN rfl (X.assign (v := .int .i64 _) rfl) ?_
      refine X.opsEnd ?_
      refine hback (i + 1, _, ds ++ [y], ys) _ _ ⟨rfl, rfl, rfl, trivial⟩ ⟨by dsimp only; rw [List.length_append, hi]; rfl, by dsimp only; rw [← hxs]; simp, hM8, ((hC1.keep ((hk2.step hx3 (by intros; (try simp only [] at *); omega)).trans hk7)).ext hx8 (by intro k hk hk2; refine ⟨by (try simp only [] at *); omega, fun ht => by have := hTb k ht; (try simp only [] at *); omega⟩)), (Ext.andThen (Ext.andThen (Ext.andThen (Ext.andThen (Ext.andThen hE hx1 (by intro k h1 h2; first | exact h2 | exact .inl h2 | exact .inr h2 | exact (h2 : False).elim | (exfalso; (try simp only [] at *); omega))) hk2 (by intro k h1 h2; first | exact h2 | exact .inl h2 | exact .inr h2 | exact (h2 : False).elim | (exfalso; (try simp only [] at *); omega))) hx3 (by intro k h1 h2; first | exact h2 | exact .inl h2 | exact .inr h2 | exact (h2 : False).elim | (exfalso; (try simp only [] at *); omega))) hk7 (by intro k h1 h2; first | exact h2 | exact .inl h2 | exact .inr h2 | exact (h2 : False).elim | (exfalso; (try simp only [] at *); omega))) hx8 (by intro k h1 h2; first | exact h2 | exact .inl h2 | exact .inr h2 | exact (h2 : False).elim | (exfalso; (try simp only [] at *); omega)))⟩ (by dsimp only; omega)
  · refine X.opsEnd ?_
    refine X.condF rfl ?_
    refine X.exit rfl ?_
    refine X.seq ?_
    refine X.region ?_
    refine X.opw X.wN rfl (X.move rfl) ?_
    refine X.opw X.wN rfl (X.assign rfl) ?_
    refine X.opw X.wN rfl (X.assign rfl) ?_
    refine X.opsEnd ?_
    refine X.ret2 (v2 := (.bool _)) Try.func15 Try.results15 rfl rfl ?_
    omega
abbrev evI (x : Int) : Value := .int .i64 x
def KIt : Kd Int := Kd.plain 1 (fun x => [.int .i64 x]) (fun _ => True) (fun _ => rfl) (fun _ u hu => by simp at hu; subst hu; rfl)
theorem KIt_flat : Flat KIt := fun h => h
theorem repsI {w : World} (x : Int) : RepsV KIt w [x] [evI x] := ⟨⟨_, rfl, rfl, trivial⟩, trivial⟩
-- f99 "(*pedigree/merge.made[int]).Next" params [92] results [3, 4] -> [(ResultVar.tmp 2), (ResultVar.tmp 3)]
set_option maxHeartbeats 4000000 in
set_option maxRecDepth 100000 in
theorem nexti_over (fv : Value) (bm : Nat) (w : World) (hB : Blk w bm [fv, .bool true] 94) : Ret Try.prog 99 #[.pointer (some ⟨bm, 0, none⟩)] w fun r w' => r = hdV evI 0 [] ∧ Keep w w' := by
  refine X.enter Try.func99 rfl Try.ntmps99 rfl ?_
  refine X.seq ?_
  refine X.region ?_
  refine X.opw X.wN rfl (X.assign rfl) ?_
  refine X.opw X.wN rfl (X.assign rfl) ?_
  refine X.opsEnd ?_
  refine X.seq ?_
  refine X.seq ?_
  refine X.region ?_
  refine X.opw X.wN rfl (X.move rfl) ?_
  refine X.opw X.wN rfl (X.nilCk rfl) ?_
  refine X.opw X.wN rfl (X.fldB (j := 1) Try.underlying94 rfl rfl Try.sizeOf4 rfl) ?_
  refine X.opw X.wN rfl (X.load1B Try.isAgg4 hB rfl rfl) ?_
  refine X.opsEnd ?_
  refine X.condB rfl (fun hc => ?_) (fun hc => ?_)
  · refine X.seq ?_
    refine X.region ?_
    refine X.opw X.wN rfl (X.move (v := .int .i64 _) rfl) ?_
    refine X.opw X.wN rfl (X.assign (v := .int .i64 _) rfl) ?_
    refine X.opw X.wN rfl (X.assign rfl) ?_
    refine X.opsEnd ?_
    refine X.ret2 (v1 := (.int .i64 _)) (v2 := (.bool _)) Try.func99 Try.results99 rfl rfl ?_
    exact ⟨rfl, (Keep.refl _)⟩
  · cases hc
-- f99 "(*pedigree/merge.made[int]).Next" params [92] results [3, 4] -> [(ResultVar.tmp 2), (ResultVar.tmp 3)]
set_option maxHeartbeats 4000000 in
set_option maxRecDepth 100000 in
theorem nexti_step (fv : Value) (bm : Nat) (T : Nat → Prop) (hTm : ¬ T bm) (xs : List _) (w : World) (R : World → Prop) (hTb : ∀ k, T k → k < w.heap.size) (hB : Blk w bm [fv, .bool false] 94) (hcall : ∀ wa, Keep w wa → YC Try.prog fv [] wa fun r wc => r = hdV evI 0 xs ∧ Ext T wa wc ∧ R wc) :
    Ret Try.prog 99 #[.pointer (some ⟨bm, 0, none⟩)] w fun r w' => r = hdV evI 0 xs ∧ (∃ wc, R wc ∧ Ext T w wc ∧ Ext (fun k => k = bm ∨ w.heap.size ≤ k) wc w') ∧ Blk w' bm [fv, .bool xs.isEmpty] 94 := by
  have hbm := hB.lt
  refine X.enter Try.func99 rfl Try.ntmps99 rfl ?_
  refine X.seq ?_
  refine X.region ?_
  refine X.opw X.wN rfl (X.assign rfl) ?_
  refine X.opw X.wN rfl (X.assign rfl) ?_
  refine X.opsEnd ?_
  refine X.seq ?_
  refine X.seq ?_
  refine X.region ?_
  refine X.opw X.wN rfl (X.move rfl) ?_
  refine X.opw X.wN rfl (X.nilCk rfl) ?_
  refine X.opw X.wN rfl (X.fldB (j := 1) Try.underlying94 rfl rfl Try.sizeOf4 rfl) ?_
  refine X.opw X.wN rfl (X.load1B Try.isAgg4 hB rfl rfl) ?_
  refine X.opsEnd ?_
  refine X.condB rfl (fun hc => ?_) (fun hc => ?_)
  · cases hc
  · refine X.skip ?_
    refine X.seq ?_
    refine X.seq ?_
    refine X.region ?_
    refine X.opw X.wN rfl (X.move rfl) ?_
    refine X.opw X.wN rfl (X.nilCk rfl) ?_
    refine X.opw X.wN rfl (X.fldB (j := 0) Try.underlying94 rfl rfl Try.sizeOf90 rfl) ?_
    refine X.opw X.wN rfl (X.load1B Try.isAgg90 hB rfl rfl) ?_
    refine X.opE X.wN rfl ((hcall _ (Keep.refl _)) _ _ _ _ _ _ _ _ _ rfl rfl) ?_
    rintro _ w1 ⟨rfl, hx1, hR1⟩
    have hx1' := hx1.size
    refine X.opw X.wN rfl (X.move rfl) ?_
    refine X.opw X.wN rfl (X.extr rfl rfl) ?_
    refine X.opw X.wN rfl (X.extr rfl rfl) ?_
    refine X.opw X.wN rfl (X.assign (v := .int .i64 _) rfl) ?_
    refine X.opw X.wN rfl (X.assign (v := .bool _) rfl) ?_
    refine X.opsEnd ?_
    refine X.seq ?_
    refine X.region ?_
    refine X.opw X.wN rfl (X.move (v := .bool _) rfl) ?_
    refine X.opw X.wN rfl (X.not_ rfl) ?_
    refine X.opsEnd ?_
    refine X.condB rfl (fun hc2 => ?_) (fun hc2 => ?_)
    · refine X.seq ?_
      refine X.region ?_
      refine X.opw X.wN rfl (X.assign rfl) ?_
      refine X.opsEnd ?_
      refine X.region ?_
      refine X.opw X.wN rfl (X.move rfl) ?_
      refine X.opw X.wN rfl (X.move (v := .int .i64 _) rfl) ?_
      refine X.opw X.wN rfl (X.nilCk rfl) ?_
      refine X.opw X.wN rfl (X.fldB (j := 1) Try.underlying94 rfl rfl Try.sizeOf4 rfl) ?_
      refine X.opE X.wN rfl (X.storeE Try.sizeOf4 (hB.ext hx1 hTm) rfl rfl rfl rfl) ?_
      rintro _ w2 ⟨hB2, hx2, hz2⟩
      refine X.opw X.wN rfl (X.assign (v := .int .i64 _) rfl) ?_
      refine X.opsEnd ?_
      refine X.seq ?_
      refine X.region ?_
      refine X.opw X.wN rfl (X.move (v := .int .i64 _) rfl) ?_
      refine X.opw X.wN rfl (X.move (v := .bool _) rfl) ?_
      refine X.opw X.wN rfl (X.assign (v := .int .i64 _) rfl) ?_
      refine X.opw X.wN rfl (X.assign (v := .bool _) rfl) ?_
      refine X.opsEnd ?_
      refine X.ret2 (v1 := (.int .i64 _)) (v2 := (.bool _)) Try.func99 Try.results99 rfl rfl ?_
      obtain rfl : xs = [] := by simpa using hc2
      exact ⟨rfl, ⟨_, hR1, (Ext.trans (U := T) (Keep.refl _) hx1 (fun _ _ h => h.elim) (fun _ _ h => h)), (Ext.andThen (Ext.refl (fun k => k = bm ∨ w.heap.size ≤ k) _) hx2 (by intro k h1 h2; first | exact h2.elim | omega | (simp only [] at *; omega)))⟩, hB2⟩
    · refine X.skip ?_
      refine X.seq ?_
      refine X.region ?_
      refine X.opw X.wN rfl (X.move (v := .int .i64 _) rfl) ?_
      refine X.opw X.wN rfl (X.move (v := .bool _) rfl) ?_
      refine X.opw X.wN rfl (X.assign (v := .int .i64 _) rfl) ?_
      refine X.opw X.wN rfl (X.assign (v := .bool _) rfl) ?_
      refine X.opsEnd ?_
      refine X.ret2 (v1 := (.int .i64 _)) (v2 := (.bool _)) Try.func99 Try.results99 rfl rfl ?_
      cases xs with
      | nil => simp at hc2
      | cons x xs => exact ⟨rfl, ⟨_, hR1, (Ext.trans (U := T) (Keep.refl _) hx1 (fun _ _ h => h.elim) (fun _ _ h => h)), (Ext.refl (fun k => k = bm ∨ w.heap.size ≤ k) _)⟩, (hB.ext hx1 hTm)⟩
theorem nexti_m (p : Value) (w : World) : (method (Try.prog.types.size + Made.depth) 92 p "Next").run Try.prog w = .ok (99, p) w := by
  kernel_rfl
-- f35 "pedigree/pedigreelaw09.rest[int]" params [58] results [54, 4] -> [(ResultVar.tmp 2), (ResultVar.tmp 3)
set_option maxHeartbeats 4000000 in
set_option maxRecDepth 100000 in
theorem resti_c {B : Nat} {T : Nat → Prop} {p : Value} {xs : List Int} (w : World) (h : Cur Try.prog evI 0 99 B T p xs w) (hB : B ≤ w.heap.size) (hTb : ∀ k, T k → k < w.heap.size) (hxl : xs.length < 2000) : Ret Try.prog 35 #[.iface 92 p] w fun r w' => ∃ v, r = .tuple #[v, .bool true] ∧ Mine KIt 3 (fun k => w.heap.size ≤ k) 0 0 w' v xs ∧ Ext T w w' := by
  refine X.enter Try.func35 rfl Try.ntmps35 rfl ?_
  refine X.seq ?_
  refine X.region ?_
  refine X.opw X.wN rfl (X.assign rfl) ?_
  refine X.opw X.wN rfl (X.assign rfl) ?_
  refine X.opsEnd ?_
  refine X.seq ?_
  refine X.seq ?_
  refine X.region ?_
  refine X.opw X.wN rfl (X.move rfl) ?_
  refine X.opw X.wN rfl (X.eqIf1 Try.underlying58 rfl rfl) ?_
  refine X.opsEnd ?_
  refine X.condF rfl ?_
  refine X.skip ?_
  refine X.seq ?_
  refine X.region ?_
  refine X.opw X.wN rfl (X.assign rfl) ?_
  refine X.opsEnd ?_
  refine X.seq ?_
  refine X.seq ?_
  refine X.region ?_
  refine X.opw X.wN rfl (X.assign rfl) ?_
  refine X.opsEnd ?_
  refine X.block ?_
  -- LOOP live: 0=c, 4=out*, 5=i*
  refine X.loopL (σ := Nat × Value × List Int × List Int) (fun s => [(0, .iface 92 p), (4, s.2.1), (5, .int .i64 (s.1 : Int))]) (fun s w' => s.1 = s.2.2.1.length ∧ s.2.2.1 ++ s.2.2.2 = xs ∧ Mine KIt 3 (fun k => w.heap.size ≤ k) 0 0 w' s.2.1 s.2.2.1 ∧ Cur Try.prog evI 0 99 B T p s.2.2.2 w' ∧ Ext T w w') (fun s => 2000 - s.1) (0, _, [], xs) ⟨rfl, rfl, rfl, trivial⟩ ⟨rfl, rfl, Mine.nil _ _ _ _ _ _, h, Ext.refl _ _⟩ ?_
  rintro ⟨i, v, ds, ys⟩ b0 wl ⟨hi, hxs, hM, hC, hE⟩ hback
  dsimp only
  simp only at hi hxs hM hC
  have hE' := hE.size
  have hlen : ds.length + ys.length = xs.length := by rw [← hxs, List.length_append]
  refine X.seq ?_
  refine X.seq ?_
  refine X.region ?_
  refine X.opw X.wN rfl (X.move (v := .int .i64 _) rfl) ?_
  refine X.opP X.wN rfl rfl (X.lss rfl rfl) (fun h13 => ?_) (fun h13 => ?_)
  · refine X.opsEnd ?_
    refine X.condT rfl ?_
    refine X.skip ?_
    refine X.seq ?_
    refine X.block ?_
    refine X.seq ?_
    refine X.region ?_
    refine X.opw X.wN rfl (X.move rfl) ?_
    refine X.opE X.wN rfl (X.invokeE rfl (nexti_m _) hC.next Try.call99) ?_
    rintro _ w1 ⟨rfl, hx1, hC1⟩
    have hx1' := hx1.size
    refine X.opw X.wN rfl (X.move rfl) ?_
    refine X.opw X.wN rfl (X.extr rfl rfl) ?_
    refine X.opw X.wN rfl (X.extr rfl rfl) ?_
    refine X.opw X.wN rfl (X.assign (v := .int .i64 _) rfl) ?_
    refine X.opw X.wN rfl (X.assign (v := .bool _) rfl) ?_
    refine X.opsEnd ?_
    refine X.seq ?_
    refine X.seq ?_
    refine X.region ?_
    refine X.opw X.wN rfl (X.move (v := .bool _) rfl) ?_
    refine X.opw X.wN rfl (X.not_ rfl) ?_
    refine X.opsEnd ?_
    refine X.condB rfl (fun hc => ?_) (fun hc => ?_)
    · cases ys with
      | cons y ys => simp at hc
      | nil =>
      refine X.seq ?_
      refine X.region ?_
      refine X.opw X.wN rfl (X.move rfl) ?_
      refine X.opE X.wN rfl (X.invokeE rfl (nexti_m _) hC1.next Try.call99) ?_
      rintro _ w2 ⟨rfl, hx2, hC2⟩
      have hx2' := hx2.size
      refine X.opw X.wN rfl (X.move rfl) ?_
      refine X.opw X.wN rfl (X.extr rfl rfl) ?_
      refine X.opw X.wN rfl (X.extr rfl rfl) ?_
      refine X.opw X.wN rfl (X.assign (v := .int .i64 _) rfl) ?_
      refine X.opw X.wN rfl (X.assign (v := .bool _) rfl) ?_
      refine X.opsEnd ?_
      refine X.seq ?_
      refine X.region ?_
      refine X.opw X.wN rfl (X.move rfl) ?_
      refine X.opw X.wN rfl (X.move (v := .bool _) rfl) ?_
      refine X.opw X.wN rfl (X.not_ rfl) ?_
      refine X.opw X.wN rfl (X.assign rfl) ?_
      refine X.opw X.wN rfl (X.assign (v := .bool _) rfl) ?_
      refine X.opsEnd ?_
      refine X.ret2 (v2 := (.bool _)) Try.func35 Try.results35 rfl rfl ?_
      exact ⟨_, rfl, (by rw [List.append_nil] at hxs; rw [← hxs]; exact ((hM.ext hx1 (by intro k h1 h2; omega) (fun k hk ht => by have := hTb k ht; omega)).ext hx2 (by intro k h1 h2; omega) (fun k hk ht => by have := hTb k ht; omega))), (Ext.andThen (Ext.andThen hE hx1 (by intro k h1 h2; first | exact h2 | exact .inl h2 | exact .inr h2 | exact (h2 : False).elim | (exfalso; (try simp only [] at *); omega))) hx2 (by intro k h1 h2; first | exact h2 | exact .inl h2 | exact .inr h2 | exact (h2 : False).elim | (exfalso; (try simp only [] at *); omega)))⟩
    · cases ys with
      | nil => simp at hc
      | cons y ys =>
      refine X.skip ?_
      refine X.region ?_
      refine X.opw X.wN rfl (X.move rfl) ?_
      refine X.opw X.wN rfl (X.move (v := .int .i64 _) rfl) ?_
      refine X.opE X.wN rfl (X.litKF KIt_flat (K := KIt) (xs := [Operand.tmp 32]) (vs := [evI y]) (ys := [y]) Try.underlying54 Try.sizeOf3 Try.zeroValue3 rfl rfl rfl rfl rfl (repsI y)) ?_
      rintro _ w3 ⟨rfl, hs3, hB3, hk3, hz3⟩
      refine X.opE X.wN rfl (X.appE (K := KIt) (S := fun k => w.heap.size ≤ k) KIt_flat Try.underlying54 EI rfl rfl ((hM.ext hx1 (by intro k h1 h2; omega) (fun k hk ht => by have := hTb k ht; omega)).keep hk3) hs3 (by (try simp only [List.length_append, List.length_cons, List.length_nil, List.length_take, List.length_drop, List.length_map, List.length_range]); omega) (by intros; (try simp only [] at *); omega)) ?_
      rintro v4 w4 ⟨hM4, hx4⟩
      have hx4' := hx4.size
      refine X.opw X.wN rfl (X.assign rfl) ?_
      refine X.opsEnd ?_
      refine X.inBlock ?_
      refine X.region ?_
      refine X.opw X.wN rfl (X.move (v := .int .i64 _) rfl) ?_
      refine X.opw X.wN rfl (X.add rfl rfl (X.w_i64 (by omega))) ?_
      refine X.opw X.wN rfl (X.assign (v := .int .i64 _) rfl) ?_
      refine X.opsEnd ?_
      refine hback (i + 1, _, ds ++ [y], ys) _ _ ⟨rfl, rfl, rfl, trivial⟩ ⟨by dsimp only; rw [List.length_append, hi]; rfl, by dsimp only; rw [← hxs]; simp, hM4, ((hC1.keep hk3).ext hx4 (by intro k hk hk2; refine ⟨by (try simp only [] at *); omega, fun ht => by have := hTb k ht; (try simp only [] at *); omega⟩)), (Ext.andThen (Ext.andThen (Ext.andThen hE hx1 (by intro k h1 h2; first | exact h2 | exact .inl h2 | exact .inr h2 | exact (h2 : False).elim | (exfalso; (try simp only [] at *); omega))) hk3 (by intro k h1 h2; first | exact h2 | exact .inl h2 | exact .inr h2 | exact (h2 : False).elim | (exfalso; (try simp only [] at *); omega))) hx4 (by intro k h1 h2; first | exact h2 | exact .inl h2 | exact .inr h2 | exact (h2 : False).elim | (exfalso; (try simp only [] at *); omega)))⟩ (by dsimp only; omega)
  · refine X.opsEnd ?_
    refine X.condF rfl ?_
    refine X.exit rfl ?_
    refine X.seq ?_
    refine X.region ?_
    refine X.opw X.wN rfl (X.move rfl) ?_
    refine X.opw X.wN rfl (X.assign rfl) ?_
    refine X.opw X.wN rfl (X.assign rfl) ?_
    refine X.opsEnd ?_
    refine X.ret2 (v2 := (.bool _)) Try.func35 Try.results35 rfl rfl ?_
    omega
end Go.Proofs.Ytgfficbkajcdpaa
