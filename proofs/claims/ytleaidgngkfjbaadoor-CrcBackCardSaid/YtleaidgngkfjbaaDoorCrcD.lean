/- Sealed bytes: contracts. -/
import Derived.Test.YtleaidgngkfjbaaDoorCrcC
namespace Go.Proofs.YtleaidgngkfjbaaDoor
open Go Go.Proofs.YtleaidgngkfjbaaDoor.X
set_option linter.unusedVariables false
set_option linter.unusedSimpArgs false

theorem seal_flat (l : List UInt8) : sealC l = [l, lowC (sumC l)].flatten := by simp [sealC]
theorem open_sh {l : List UInt8} {n : Nat} (hl : l.length = n) (h : (n : Int) - 4 < 0) : openC l = (41, []) := by rw [openC, if_pos (by omega)]
theorem open_bad {l : List UInt8} {n : Nat} (hl : l.length = n) (h : ¬ (n : Int) - 4 < 0) (h2 : ((sumC (l.take ((n : Int) - 4).toNat)).toNat : Int) ≠ ((numC (l.drop ((n : Int) - 4).toNat)).toNat : Int)) : openC l = (40, []) := by
  rw [show ((n : Int) - 4).toNat = l.length - 4 by omega] at h2
  rw [openC, if_neg (by omega), if_neg (fun e => h2 (by rw [e]))]
theorem open_ok {l : List UInt8} {n : Nat} (hl : l.length = n) (h : ¬ (n : Int) - 4 < 0) (h2 : ¬ ((sumC (l.take ((n : Int) - 4).toNat)).toNat : Int) ≠ ((numC (l.drop ((n : Int) - 4).toNat)).toNat : Int)) : openC l = (0, l.take ((n : Int) - 4).toNat) := by
  rw [show ((n : Int) - 4).toNat = l.length - 4 by omega] at h2 ⊢
  rw [openC, if_neg (by omega), if_pos (BitVec.eq_of_toNat_eq (by omega))]
theorem fresh2 {w : World} {b : List UInt8} {k : Int} (r : Value) (w' : World) (h : ∃ v, r = .tuple #[v, .int .i64 k] ∧ Fresh KB 5 w w' v b) : ∃ A c, r = .tuple #[.slice A b.length c, .int .i64 k] ∧ b.length ≤ c ∧ Sl KB 0 w'.heap.size w' A b.length b ∧ Mine KB 5 (fun k => w.heap.size ≤ k) 0 0 w' (.slice A b.length c) b ∧ Keep w w' := by
  obtain ⟨v, h1, h2⟩ := h
  obtain ⟨A, c, rfl, hc, hs, hM, hk⟩ := h2.s KB_flat
  exact ⟨A, c, h1, hc, hs, hM, hk⟩
-- f15 "pedigree/crc.Seal" params [22] results [22] -> [(ResultVar.tmp 2)] nfree 0 ntmps 9 names ["b", "b", ""
set_option maxHeartbeats 4000000 in
set_option maxRecDepth 100000 in
theorem Seal_c {lo hi : Nat} {A : Option Addr} {n c : Nat} {l : List UInt8} (w : World) (hs : Sl KB lo hi w A n l) (hhi : hi ≤ w.heap.size) (hnc : n ≤ c) (hn : n ≤ 2000000) (hT : TabOk w) : Ret Tryd.prog 15 #[.slice A n c] w fun r w' => Fresh KB 5 w w' r (sealC l) := by
  have hl := hs.len
  have hlo : (lowC (sumC l)).length = 4 := rfl
  refine X.enter Tryd.func15 rfl Tryd.ntmps15 rfl ?_
  refine X.seq ?_
  refine X.region ?_
  refine X.opw X.wN rfl (X.assign rfl) ?_
  refine X.opsEnd ?_
  refine X.seq ?_
  refine X.region ?_
  refine X.opw X.wN rfl (X.move (v := .slice _ _ _) rfl) ?_
  refine X.opw X.wN rfl (X.move (v := .slice _ _ _) rfl) ?_
  refine X.opE X.wN rfl (X.callE (Sum_c _ hs (hT.keep (Keep.refl _))) Tryd.call13 rfl rfl) ?_
  rintro _ w1 ⟨rfl, hk1⟩
  have hk1' := hk1.size
  refine X.opE X.wN rfl (X.callE ((low_c _ _).mono freshB) Tryd.call38 rfl rfl) ?_
  rintro _ w2 ⟨A2, c2, rfl, hc2, hs2, hM2, hk2⟩
  have hk2' := hk2.size
  refine X.opE X.wN rfl (X.litKE (K := KR1) (xs := [Operand.tmp 3, Operand.tmp 6]) (vs := [.slice A n c, .slice A2 (lowC (sumC l)).length c2]) (ys := [.slice A n c, .slice A2 (lowC (sumC l)).length c2]) Tryd.underlying38 Tryd.sizeOf22 Tryd.zeroValue22 rfl rfl rfl rfl rfl ⟨⟨_, rfl, rfl, rfl⟩, ⟨_, rfl, rfl, rfl⟩, trivial⟩) ?_
  rintro _ w3 ⟨rfl, hs3, hB3, hk3, hz3⟩
  refine X.opE X.wN rfl (X.callE (Concat_c (lo2 := 0) (hi2 := w3.heap.size) (ls := [l, lowC (sumC l)]) _ hs3 ⟨⟨A, n, c, rfl, hnc, ((hs.keep ((hk1.trans hk2).trans hk3)).wide (Nat.zero_le _) (by omega))⟩, ⟨_, _, _, rfl, hc2, ((hs2.keep hk3).wide (Nat.zero_le _) (by omega))⟩, trivial⟩ (by simp only [List.flatten_cons, List.flatten_nil, List.length_append, List.length_nil, hlo, hl]; omega)) Tryd.call37 rfl rfl) ?_
  rintro v4 w4 ⟨hM4, hk4⟩
  have hk4' := hk4.size
  refine X.opw X.wN rfl (X.assign rfl) ?_
  refine X.opsEnd ?_
  refine X.ret1 Tryd.func15 Tryd.results15 rfl ?_
  exact ⟨by rw [seal_flat]; exact (hM4.step (T := fun k => w.heap.size ≤ k) (fun k h => by (try simp only [] at *); omega)), (((hk1.trans hk2).trans hk3).trans hk4)⟩
-- f16 "pedigree/pedigreeref04.Seal" params [22] results [22] -> [(ResultVar.tmp 2)] nfree 0 ntmps 10 names ["
set_option maxHeartbeats 4000000 in
set_option maxRecDepth 100000 in
theorem RSeal_c {lo hi : Nat} {A : Option Addr} {n c : Nat} {l : List UInt8} (w : World) (hs : Sl KB lo hi w A n l) (hn : n ≤ 2000000) : Ret Tryd.prog 16 #[.slice A n c] w fun r w' => Fresh KB 5 w w' r (sealC l) := by
  have hl := hs.len
  have hlo : (lowC (sumC l)).length = 4 := rfl
  refine X.enter Tryd.func16 rfl Tryd.ntmps16 rfl ?_
  refine X.seq ?_
  refine X.region ?_
  refine X.opw X.wN rfl (X.assign rfl) ?_
  refine X.opsEnd ?_
  refine X.seq ?_
  refine X.region ?_
  refine X.opE X.wN rfl (X.lit0E (K := KB) (S := fun k => w.heap.size ≤ k) Tryd.underlying22 Tryd.sizeOf5 (by intros; (try simp only [] at *); omega)) ?_
  rintro v1 w1 ⟨hM1, hk1, hz1⟩
  refine X.opw X.wN rfl (X.move (v := .slice _ _ _) rfl) ?_
  refine X.opE X.wN rfl (X.appE (K := KB) (S := fun k => w.heap.size ≤ k) KB_flat Tryd.underlying22 E8 rfl rfl hM1 (hs.keep hk1) (by (try simp only [List.length_append, List.length_cons, List.length_nil, List.length_take, List.length_drop, List.length_map, List.length_range]); omega) (by intros; (try simp only [] at *); omega)) ?_
  rintro v2 w2 ⟨hM2, hx2⟩
  have hx2' := hx2.size
  refine X.opw X.wN rfl (X.move (v := .slice _ _ _) rfl) ?_
  refine X.opE X.wN rfl (X.callE (RSum_c _ (hs.keep (hk1.step hx2 (by intros; (try simp only [] at *); omega)))) Tryd.call14 rfl rfl) ?_
  rintro _ w3 ⟨rfl, hk3⟩
  have hk3' := hk3.size
  refine X.opE X.wN rfl (X.callE ((four_c _ _).mono freshB) Tryd.call39 rfl rfl) ?_
  rintro _ w4 ⟨A4, c4, rfl, hc4, hs4, hM4, hk4⟩
  have hk4' := hk4.size
  refine X.opE X.wN rfl (X.appE (K := KB) (S := fun k => w.heap.size ≤ k) KB_flat Tryd.underlying22 E8 rfl rfl (hM2.keep (hk3.trans hk4)) hs4 (by (try simp only [List.length_append, List.length_cons, List.length_nil, List.length_take, List.length_drop, List.length_map, List.length_range]); omega) (by intros; (try simp only [] at *); omega)) ?_
  rintro v5 w5 ⟨hM5, hx5⟩
  have hx5' := hx5.size
  refine X.opw X.wN rfl (X.assign rfl) ?_
  refine X.opsEnd ?_
  refine X.ret1 Tryd.func16 Tryd.results16 rfl ?_
  exact ⟨(hM5.step (T := fun k => w.heap.size ≤ k) (fun k h => by (try simp only [] at *); omega)), ((((hk1.step hx2 (by intros; (try simp only [] at *); omega)).trans hk3).trans hk4).step hx5 (by intros; (try simp only [] at *); omega))⟩
-- f11 "pedigree/crc.Open" params [22] results [22, 24] -> [(ResultVar.tmp 2), (ResultVar.tmp 3)] nfree 0 ntmp
set_option maxHeartbeats 4000000 in
set_option maxRecDepth 100000 in
theorem Open_c {lo hi : Nat} {A : Option Addr} {n c : Nat} {l : List UInt8} (w : World) (hs : Sl KB lo hi w A n l) (hnc : n ≤ c) (hn : n ≤ 2000000) (hT : TabOk w) : Ret Tryd.prog 11 #[.slice A n c] w fun r w' => ∃ v, r = .tuple #[v, .int .i64 (openC l).1] ∧ Fresh KB 5 w w' v (openC l).2 := by
  have hl := hs.len
  refine X.enter Tryd.func11 rfl Tryd.ntmps11 rfl ?_
  refine X.seq ?_
  refine X.region ?_
  refine X.opw X.wN rfl (X.assign rfl) ?_
  refine X.opw X.wN rfl (X.assign rfl) ?_
  refine X.opsEnd ?_
  refine X.seq ?_
  refine X.region ?_
  refine X.opw X.wN rfl (X.move (v := .slice _ _ _) rfl) ?_
  refine X.opw X.wN rfl (X.lenSl Tryd.underlying22 rfl) ?_
  refine X.opw X.wN rfl (X.sub rfl rfl (X.w_i64 (by omega))) ?_
  refine X.opw X.wN rfl (X.assign (v := .int .i64 _) rfl) ?_
  refine X.opsEnd ?_
  refine X.seq ?_
  refine X.block ?_
  refine X.seq ?_
  refine X.region ?_
  refine X.opw X.wN rfl (X.move (v := .int .i64 _) rfl) ?_
  refine X.opP X.wN rfl rfl (X.lss rfl rfl) (fun h10 => ?_) (fun h10 => ?_)
  · refine X.opw X.wN rfl (X.assign (v := .bool true) rfl) ?_
    refine X.opsEnd ?_
    refine X.condT rfl ?_
    refine X.seq ?_
    refine X.region ?_
    refine X.opw X.wN rfl (X.assign rfl) ?_
    refine X.opw X.wN rfl (X.assign rfl) ?_
    refine X.opsEnd ?_
    refine X.ret2 (v2 := (.int .i64 _)) Tryd.func11 Tryd.results11 rfl rfl ?_
    rw [open_sh hl h10]
    exact ⟨_, rfl, ((Mine.nil _ _ _ _ _ _).step (T := fun k => w.heap.size ≤ k) (fun k h => by (try simp only [] at *); omega)), (Keep.refl _)⟩
  · refine X.opw X.wN rfl (X.assign (v := .bool false) rfl) ?_
    refine X.opsEnd ?_
    refine X.condF rfl ?_
    refine X.seq ?_
    refine X.regionD (fun _ => False) 10 (by kernel_rfl) (by kernel_rfl) (fun w1 hk1 hz1 => ?_)
    refine X.dTake 0 rfl (by kernel_rfl) (by kernel_rfl) (by kernel_rfl) (X.dwN rfl) (fun w' hk' => X.move (v := .slice _ _ _) rfl) ?_
    refine X.dTake 1 rfl (by kernel_rfl) (by kernel_rfl) (by kernel_rfl) (X.dwN rfl) (fun w' hk' => X.move (v := .int .i64 _) rfl) ?_
    refine X.dTake 2 rfl (by kernel_rfl) (by kernel_rfl) (by kernel_rfl) (X.dwN rfl) (fun w' hk' => X.cutHr Tryd.underlying22 Tryd.sizeOf5 rfl rfl (by omega)) ?_
    refine X.dTake 4 rfl (by kernel_rfl) (by kernel_rfl) (by kernel_rfl) (X.dwN rfl) (fun w' hk' => X.move (v := .slice _ _ _) rfl) ?_
    refine X.dTake 5 rfl (by kernel_rfl) (by kernel_rfl) (by kernel_rfl) (X.dwN rfl) (fun w' hk' => X.move (v := .int .i64 _) rfl) ?_
    refine X.dTake 6 rfl (by kernel_rfl) (by kernel_rfl) (by kernel_rfl) (X.dwN rfl) (fun w' hk' => X.cutL Tryd.underlying22 Tryd.sizeOf5 rfl rfl (by omega)) ?_
    refine X.dE (i := 3) (by kernel_rfl) rfl (X.dwN rfl) (X.callE (Sum_c _ ((hs.take ((n : Int) - 4).toNat (by omega)).keep hk1) (hT.keep hk1)) Tryd.call13 rfl rfl) (by rintro _ w2 ⟨rfl, hk2⟩ _; exact hk2.mono (fun _ _ h => h.elim)) ?_
    rintro _ w2 ⟨rfl, hk2⟩
    have hk2' := hk2.size
    refine X.dE (i := 7) (by kernel_rfl) rfl (X.dwN rfl) (X.callE (number_c _ ((hs.drop ((n : Int) - 4).toNat c (by omega) hnc).keep (hk1.trans hk2)) (by omega)) Tryd.call32 rfl rfl) (by rintro _ w3 ⟨rfl, hk3⟩ _; exact hk3.mono (fun _ _ h => h.elim)) ?_
    rintro _ w3 ⟨rfl, hk3⟩
    have hk3' := hk3.size
    refine X.dTake 8 rfl (by kernel_rfl) (by kernel_rfl) (by kernel_rfl) (X.dwN rfl) (fun w' hk' => X.neI rfl rfl) ?_
    refine X.dTake 9 rfl (by kernel_rfl) (by kernel_rfl) (by kernel_rfl) (X.dwN rfl) (fun w' hk' => X.assign (v := .bool _) rfl) ?_
    refine X.dEnd (by kernel_rfl) ?_
    refine X.condB rfl (fun hc => ?_) (fun hc => ?_)
    · refine X.seq ?_
      refine X.region ?_
      refine X.opw X.wN rfl (X.assign rfl) ?_
      refine X.opw X.wN rfl (X.assign rfl) ?_
      refine X.opsEnd ?_
      refine X.ret2 (v2 := (.int .i64 _)) Tryd.func11 Tryd.results11 rfl rfl ?_
      rw [open_bad hl h10 (of_decide_eq_true hc)]
      exact ⟨_, rfl, ((Mine.nil _ _ _ _ _ _).step (T := fun k => w.heap.size ≤ k) (fun k h => by (try simp only [] at *); omega)), ((hk1.trans hk2).trans hk3)⟩
    · refine X.skip ?_
      refine X.inBlock ?_
      refine X.seq ?_
      refine X.region ?_
      refine X.opw X.wN rfl (X.move (v := .slice _ _ _) rfl) ?_
      refine X.opw X.wN rfl (X.move (v := .int .i64 _) rfl) ?_
      refine X.opw X.wN rfl (X.cutHr Tryd.underlying22 Tryd.sizeOf5 rfl rfl (by omega)) ?_
      refine X.opE X.wN rfl (X.callE ((Clone_c _ ((hs.take ((n : Int) - 4).toNat (by omega)).keep ((hk1.trans hk2).trans hk3)) (by omega)).mono freshB) Tryd.call33 rfl rfl) ?_
      rintro _ w4 ⟨A4, c4, rfl, hc4, hs4, hM4, hk4⟩
      have hk4' := hk4.size
      refine X.opw X.wN rfl (X.assign rfl) ?_
      refine X.opw X.wN rfl (X.assign rfl) ?_
      refine X.opsEnd ?_
      refine X.ret2 (v2 := (.int .i64 _)) Tryd.func11 Tryd.results11 rfl rfl ?_
      rw [open_ok hl h10 (of_decide_eq_false hc)]
      exact ⟨_, rfl, (hM4.step (T := fun k => w.heap.size ≤ k) (fun k h => by (try simp only [] at *); omega)), (((hk1.trans hk2).trans hk3).trans hk4)⟩
-- f12 "pedigree/pedigreeref04.Open" params [22] results [22, 24] -> [(ResultVar.tmp 2), (ResultVar.tmp 3)] nf
set_option maxHeartbeats 4000000 in
set_option maxRecDepth 100000 in
theorem ROpen_c {lo hi : Nat} {A : Option Addr} {n c : Nat} {l : List UInt8} (w : World) (hs : Sl KB lo hi w A n l) (hnc : n ≤ c) (hn : n ≤ 2000000) : Ret Tryd.prog 12 #[.slice A n c] w fun r w' => ∃ v, r = .tuple #[v, .int .i64 (openC l).1] ∧ Fresh KB 5 w w' v (openC l).2 := by
  have hl := hs.len
  refine X.enter Tryd.func12 rfl Tryd.ntmps12 rfl ?_
  refine X.seq ?_
  refine X.region ?_
  refine X.opw X.wN rfl (X.assign rfl) ?_
  refine X.opw X.wN rfl (X.assign rfl) ?_
  refine X.opsEnd ?_
  refine X.seq ?_
  refine X.region ?_
  refine X.opw X.wN rfl (X.move (v := .slice _ _ _) rfl) ?_
  refine X.opw X.wN rfl (X.lenSl Tryd.underlying22 rfl) ?_
  refine X.opw X.wN rfl (X.sub rfl rfl (X.w_i64 (by omega))) ?_
  refine X.opw X.wN rfl (X.assign (v := .int .i64 _) rfl) ?_
  refine X.opsEnd ?_
  refine X.seq ?_
  refine X.seq ?_
  refine X.region ?_
  refine X.opw X.wN rfl (X.move (v := .int .i64 _) rfl) ?_
  refine X.opP X.wN rfl rfl (X.lss rfl rfl) (fun h9 => ?_) (fun h9 => ?_)
  · refine X.opsEnd ?_
    refine X.condT rfl ?_
    refine X.seq ?_
    refine X.region ?_
    refine X.opw X.wN rfl (X.assign rfl) ?_
    refine X.opw X.wN rfl (X.assign rfl) ?_
    refine X.opsEnd ?_
    refine X.ret2 (v2 := (.int .i64 _)) Tryd.func12 Tryd.results12 rfl rfl ?_
    rw [open_sh hl h9]
    exact ⟨_, rfl, ((Mine.nil _ _ _ _ _ _).step (T := fun k => w.heap.size ≤ k) (fun k h => by (try simp only [] at *); omega)), (Keep.refl _)⟩
  · refine X.opsEnd ?_
    refine X.condF rfl ?_
    refine X.skip ?_
    refine X.seq ?_
    refine X.seq ?_
    refine X.regionD (fun _ => False) 9 (by kernel_rfl) (by kernel_rfl) (fun w1 hk1 hz1 => ?_)
    refine X.dTake 0 rfl (by kernel_rfl) (by kernel_rfl) (by kernel_rfl) (X.dwN rfl) (fun w' hk' => X.move (v := .slice _ _ _) rfl) ?_
    refine X.dTake 1 rfl (by kernel_rfl) (by kernel_rfl) (by kernel_rfl) (X.dwN rfl) (fun w' hk' => X.move (v := .int .i64 _) rfl) ?_
    refine X.dTake 2 rfl (by kernel_rfl) (by kernel_rfl) (by kernel_rfl) (X.dwN rfl) (fun w' hk' => X.cutL Tryd.underlying22 Tryd.sizeOf5 rfl rfl (by omega)) ?_
    refine X.dTake 4 rfl (by kernel_rfl) (by kernel_rfl) (by kernel_rfl) (X.dwN rfl) (fun w' hk' => X.move (v := .slice _ _ _) rfl) ?_
    refine X.dTake 5 rfl (by kernel_rfl) (by kernel_rfl) (by kernel_rfl) (X.dwN rfl) (fun w' hk' => X.move (v := .int .i64 _) rfl) ?_
    refine X.dTake 6 rfl (by kernel_rfl) (by kernel_rfl) (by kernel_rfl) (X.dwN rfl) (fun w' hk' => X.cutHr Tryd.underlying22 Tryd.sizeOf5 rfl rfl (by omega)) ?_
    refine X.dE (i := 3) (by kernel_rfl) rfl (X.dwN rfl) (X.callE (get_c _ ((hs.drop ((n : Int) - 4).toNat c (by omega) hnc).keep hk1) (by omega)) Tryd.call34 rfl rfl) (by rintro _ w2 ⟨rfl, hk2⟩ _; exact hk2.mono (fun _ _ h => h.elim)) ?_
    rintro _ w2 ⟨rfl, hk2⟩
    have hk2' := hk2.size
    refine X.dE (i := 7) (by kernel_rfl) rfl (X.dwN rfl) (X.callE (RSum_c _ ((hs.take ((n : Int) - 4).toNat (by omega)).keep (hk1.trans hk2))) Tryd.call14 rfl rfl) (by rintro _ w3 ⟨rfl, hk3⟩ _; exact hk3.mono (fun _ _ h => h.elim)) ?_
    rintro _ w3 ⟨rfl, hk3⟩
    have hk3' := hk3.size
    refine X.dTake 8 rfl (by kernel_rfl) (by kernel_rfl) (by kernel_rfl) (X.dwN rfl) (fun w' hk' => X.neI rfl rfl) ?_
    refine X.dEnd (by kernel_rfl) ?_
    refine X.condB rfl (fun hc => ?_) (fun hc => ?_)
    · refine X.seq ?_
      refine X.region ?_
      refine X.opw X.wN rfl (X.assign rfl) ?_
      refine X.opw X.wN rfl (X.assign rfl) ?_
      refine X.opsEnd ?_
      refine X.ret2 (v2 := (.int .i64 _)) Tryd.func12 Tryd.results12 rfl rfl ?_
      rw [open_bad hl h9 (fun e => of_decide_eq_true hc e.symm)]
      exact ⟨_, rfl, ((Mine.nil _ _ _ _ _ _).step (T := fun k => w.heap.size ≤ k) (fun k h => by (try simp only [] at *); omega)), ((hk1.trans hk2).trans hk3)⟩
    · refine X.skip ?_
      refine X.seq ?_
      refine X.region ?_
      refine X.opE X.wN rfl (X.lit0E (K := KB) (S := fun k => w.heap.size ≤ k) Tryd.underlying22 Tryd.sizeOf5 (by intros; (try simp only [] at *); omega)) ?_
      rintro v4 w4 ⟨hM4, hk4, hz4⟩
      refine X.opw X.wN rfl (X.move (v := .slice _ _ _) rfl) ?_
      refine X.opw X.wN rfl (X.move (v := .int .i64 _) rfl) ?_
      refine X.opw X.wN rfl (X.cutHr Tryd.underlying22 Tryd.sizeOf5 rfl rfl (by omega)) ?_
      refine X.opE X.wN rfl (X.appE (K := KB) (S := fun k => w.heap.size ≤ k) KB_flat Tryd.underlying22 E8 rfl rfl hM4 ((hs.take ((n : Int) - 4).toNat (by omega)).keep (((hk1.trans hk2).trans hk3).trans hk4)) (by (try simp only [List.length_append, List.length_cons, List.length_nil, List.length_take, List.length_drop, List.length_map, List.length_range]); omega) (by intros; (try simp only [] at *); omega)) ?_
      rintro v5 w5 ⟨hM5, hx5⟩
      have hx5' := hx5.size
      refine X.opw X.wN rfl (X.assign rfl) ?_
      refine X.opw X.wN rfl (X.assign rfl) ?_
      refine X.opsEnd ?_
      refine X.ret2 (v2 := (.int .i64 _)) Tryd.func12 Tryd.results12 rfl rfl ?_
      rw [open_ok hl h9 (fun e => of_decide_eq_false hc (fun q => e q.symm))]
      exact ⟨_, rfl, (hM5.step (T := fun k => w.heap.size ≤ k) (fun k h => by (try simp only [] at *); omega)), ((((hk1.trans hk2).trans hk3).trans hk4).step hx5 (by intros; (try simp only [] at *); omega))⟩
-- f10 "pedigree/pedigreelaw04.cut" params [22] results [22] -> [(ResultVar.tmp 2)] nfree 0 ntmps 9 names ["b"
set_option maxHeartbeats 4000000 in
set_option maxRecDepth 100000 in
theorem cut_c {lo hi : Nat} {A : Option Addr} {n c : Nat} {l : List UInt8} (w : World) (hs : Sl KB lo hi w A n l) (hnc : n ≤ c) : Ret Tryd.prog 10 #[.slice A n c] w fun r w' => ∃ m, r = .slice A m c ∧ m ≤ c ∧ m ≤ 3000 ∧ Sl KB lo hi w' A m (l.take 3000) ∧ Keep w w' := by
  have hn := hs.bound
  have hl := hs.len
  refine X.enter Tryd.func10 rfl Tryd.ntmps10 rfl ?_
  refine X.seq ?_
  refine X.region ?_
  refine X.opw X.wN rfl (X.assign rfl) ?_
  refine X.opsEnd ?_
  refine X.seq ?_
  refine X.seq ?_
  refine X.region ?_
  refine X.opw X.wN rfl (X.move (v := .slice _ _ _) rfl) ?_
  refine X.opw X.wN rfl (X.lenSl Tryd.underlying22 rfl) ?_
  refine X.opP X.wN rfl rfl (X.gtr rfl rfl) (fun h5 => ?_) (fun h5 => ?_)
  · refine X.opsEnd ?_
    refine X.condT rfl ?_
    refine X.seq ?_
    refine X.region ?_
    refine X.opw X.wN rfl (X.move (v := .slice _ _ _) rfl) ?_
    refine X.opw X.wN rfl (X.cutHr Tryd.underlying22 Tryd.sizeOf5 rfl rfl (by omega)) ?_
    refine X.opw X.wN rfl (X.assign (v := .slice _ _ _) rfl) ?_
    refine X.opsEnd ?_
    refine X.ret1 Tryd.func10 Tryd.results10 rfl ?_
    exact ⟨3000, rfl, by omega, by omega, hs.take 3000 (by omega), (Keep.refl _)⟩
  · refine X.opsEnd ?_
    refine X.condF rfl ?_
    refine X.skip ?_
    refine X.seq ?_
    refine X.region ?_
    refine X.opw X.wN rfl (X.move (v := .slice _ _ _) rfl) ?_
    refine X.opw X.wN rfl (X.assign (v := .slice _ _ _) rfl) ?_
    refine X.opsEnd ?_
    refine X.ret1 Tryd.func10 Tryd.results10 rfl ?_
    exact ⟨n, rfl, hnc, by omega, by rw [List.take_of_length_le (by omega)]; exact hs, (Keep.refl _)⟩
end Go.Proofs.YtleaidgngkfjbaaDoor
