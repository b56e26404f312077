/- The first frame of bytes: contracts. -/
import Derived.Test.YtleaidgngkfjbaaDoorCrcE
namespace Go.Proofs.YtleaidgngkfjbaaDoor
open Go Go.Proofs.YtleaidgngkfjbaaDoor.X
set_option linter.unusedVariables false
set_option linter.unusedSimpArgs false

section
variable {l : List UInt8}
theorem unf1 (h : l.length < 9) : unframeC l = (41, 0, [], 0) := by rw [unframeC, if_pos h]
theorem unf2 (h : ¬ l.length < 9) (h2 : (openC (l.take 9)).1 ≠ 0 ∨ 1048576 < (numC ((openC (l.take 9)).2.drop 1)).toNat) : unframeC l = (42, 0, [], 0) := by
  rw [unframeC, if_neg h, if_pos h2]
theorem unf3 (h : ¬ l.length < 9) (h2 : ¬ (openC (l.take 9)).1 ≠ 0) (h3 : ¬ 1048576 < (numC ((openC (l.take 9)).2.drop 1)).toNat) (h4 : l.length < (numC ((openC (l.take 9)).2.drop 1)).toNat + 13) : unframeC l = (41, 0, [], 0) := by
  rw [unframeC, if_neg h, if_neg (fun q => q.elim h2 h3), if_pos h4]
theorem unf4 (q : Nat) (hq : q = (numC ((openC (l.take 9)).2.drop 1)).toNat + 13) (h : ¬ l.length < 9) (h2 : ¬ (openC (l.take 9)).1 ≠ 0) (h3 : ¬ 1048576 < (numC ((openC (l.take 9)).2.drop 1)).toNat) (h4 : ¬ l.length < (numC ((openC (l.take 9)).2.drop 1)).toNat + 13) (h5 : (openC ((l.take q).drop 9)).1 ≠ 0) :
    unframeC l = ((openC ((l.take q).drop 9)).1, 0, [], 0) := by
  subst hq
  rw [unframeC, if_neg h, if_neg (fun q => q.elim h2 h3), if_neg h4, if_pos h5]
theorem unf5 (q : Nat) (hq : q = (numC ((openC (l.take 9)).2.drop 1)).toNat + 13) (h : ¬ l.length < 9) (h2 : ¬ (openC (l.take 9)).1 ≠ 0) (h3 : ¬ 1048576 < (numC ((openC (l.take 9)).2.drop 1)).toNat) (h4 : ¬ l.length < (numC ((openC (l.take 9)).2.drop 1)).toNat + 13) (h5 : ¬ (openC ((l.take q).drop 9)).1 ≠ 0) {k0 : UInt8} {t : List UInt8} (hk : (openC (l.take 9)).2 = k0 :: t) :
    unframeC l = (0, k0, (openC ((l.take q).drop 9)).2, (q : Int)) := by
  subst hq
  have e : (openC (l.take 9)).2.headD 0 = k0 := by rw [hk]; rfl
  rw [unframeC, if_neg h, if_neg (fun q => q.elim h2 h3), if_neg h4, if_neg h5, e]; rfl
theorem open5 (h : ¬ l.length < 9) (h2 : ¬ (openC (l.take 9)).1 ≠ 0) : (openC (l.take 9)).2.length = 5 := by
  obtain ⟨h3, _⟩ := open_len h2
  rw [h3, List.length_take, List.length_take]; omega
theorem cons_of {l : List UInt8} (h : l.length = 5) : ∃ k t, l = k :: t := by
  cases l with
  | nil => simp at h
  | cons k t => exact ⟨k, t, rfl⟩
end
-- f19 "pedigree/crc.Unframe" params [22] results [33, 3, 24] -> [(ResultVar.cell 2 33), (ResultVar.tmp 3), (R
set_option maxHeartbeats 4000000 in
set_option maxRecDepth 100000 in
theorem Unframe_c {lo hi : Nat} {A : Option Addr} {n c : Nat} {l : List UInt8} (w : World) (hs : Sl KB lo hi w A n l) (hnc : n ≤ c) (hn : n ≤ 2000000) (hT : TabOk w) : Ret Tryd.prog 19 #[.slice A n c] w fun r w' => ∃ v, r = .tuple #[.agg #[.int .u8 ((unframeC l).2.1.toNat : Int), v], .int .i64 (unframeC l).2.2.2, .int .i64 (unframeC l).1] ∧ Fresh KB 5 w w' v (unframeC l).2.2.1 := by
  have hl := hs.len
  refine X.enter Tryd.func19 rfl Tryd.ntmps19 rfl ?_
  refine X.seq ?_
  refine X.region ?_
  refine X.opE X.wN rfl (X.allocE Tryd.zeroValue33 rfl) ?_
  rintro _ w1 ⟨rfl, hB1, hk1, hz1⟩
  refine X.opw X.wN rfl (X.assign rfl) ?_
  refine X.opw X.wN rfl (X.assign rfl) ?_
  refine X.opsEnd ?_
  refine X.seq ?_
  refine X.seq ?_
  refine X.region ?_
  refine X.opw X.wN rfl (X.move (v := .slice _ _ _) rfl) ?_
  refine X.opw X.wN rfl (X.lenSl Tryd.underlying22 rfl) ?_
  refine X.opP X.wN rfl rfl (X.lss rfl rfl) (fun h11 => ?_) (fun h11 => ?_)
  · refine X.opsEnd ?_
    refine X.condT rfl ?_
    refine X.seq ?_
    refine X.region ?_
    refine X.opw X.wN rfl (X.buildB (vs := []) (cs := #[.int .u8 0, .slice none 0 0]) rfl (by kernel_rfl)) ?_
    refine X.opE X.wN rfl (X.storeNE Tryd.sizeOf33 hB1 rfl rfl rfl rfl (fun u hu => by simp at hu; rcases hu with rfl | rfl <;> rfl)) ?_
    rintro _ w2 ⟨hB2, hx2, hz2⟩
    refine X.opw X.wN rfl (X.assign rfl) ?_
    refine X.opw X.wN rfl (X.assign rfl) ?_
    refine X.opsEnd ?_
    refine X.ret_unw (X.unwR3 Tryd.func19 Tryd.results19 (X.ResOk.cell rfl (X.lvN Tryd.isAgg33 Tryd.sizeOf33 hB2 rfl)) (show X.ResOk _ _ _ (.tmp 3) (.int .i64 _) from rfl) (show X.ResOk _ _ _ (.tmp 4) (.int .i64 _) from rfl) ?_)
    rw [unf1 (by omega)]
    exact ⟨_, rfl, Mine.nil _ _ _ _ _ _, (hk1.step hx2 (by intros; (try simp only [] at *); omega))⟩
  · refine X.opsEnd ?_
    refine X.condF rfl ?_
    refine X.skip ?_
    refine X.seq ?_
    refine X.region ?_
    refine X.opw X.wN rfl (X.move (v := .slice _ _ _) rfl) ?_
    refine X.opw X.wN rfl (X.cutHr Tryd.underlying22 Tryd.sizeOf5 rfl rfl (by omega)) ?_
    refine X.opE X.wN rfl (X.callE ((Open_c _ ((hs.take 9 (by omega)).keep hk1) (by omega) (by omega) (hT.keep hk1)).mono fresh2) Tryd.call11 rfl rfl) ?_
    rintro _ w3 ⟨A3, c3, rfl, hc3, hs3, hM3, hk3⟩
    have hk3' := hk3.size
    refine X.opw X.wN rfl (X.move rfl) ?_
    refine X.opw X.wN rfl (X.extr rfl rfl) ?_
    refine X.opw X.wN rfl (X.extr rfl rfl) ?_
    refine X.opw X.wN rfl (X.assign rfl) ?_
    refine X.opw X.wN rfl (X.assign (v := .int .i64 _) rfl) ?_
    refine X.opsEnd ?_
    refine X.seq ?_
    refine X.seq ?_
    refine X.region ?_
    refine X.opw X.wN rfl (X.move (v := .int .i64 _) rfl) ?_
    refine X.opP X.wN rfl rfl (X.neI rfl rfl) (fun h20 => ?_) (fun h20 => ?_)
    · refine X.opw X.wN rfl (X.move (v := .bool true) rfl) ?_
      refine X.opS rfl rfl rfl rfl rfl ?_
      refine X.opS rfl rfl rfl rfl rfl ?_
      refine X.opS rfl rfl rfl rfl rfl ?_
      refine X.opS rfl rfl rfl rfl rfl ?_
      refine X.opw X.wN rfl (X.pickT (v := .bool true) rfl rfl) ?_
      refine X.opsEnd ?_
      refine X.condT rfl ?_
      refine X.seq ?_
      refine X.region ?_
      refine X.opw X.wN rfl (X.buildB (vs := []) (cs := #[.int .u8 0, .slice none 0 0]) rfl (by kernel_rfl)) ?_
      refine X.opE X.wN rfl (X.storeNE Tryd.sizeOf33 (hB1.keep hk3) rfl rfl rfl rfl (fun u hu => by simp at hu; rcases hu with rfl | rfl <;> rfl)) ?_
      rintro _ w4 ⟨hB4, hx4, hz4⟩
      refine X.opw X.wN rfl (X.assign rfl) ?_
      refine X.opw X.wN rfl (X.assign rfl) ?_
      refine X.opsEnd ?_
      refine X.ret_unw (X.unwR3 Tryd.func19 Tryd.results19 (X.ResOk.cell rfl (X.lvN Tryd.isAgg33 Tryd.sizeOf33 hB4 rfl)) (show X.ResOk _ _ _ (.tmp 3) (.int .i64 _) from rfl) (show X.ResOk _ _ _ (.tmp 4) (.int .i64 _) from rfl) ?_)
      rw [unf2 (by omega) (Or.inl h20)]
      exact ⟨_, rfl, Mine.nil _ _ _ _ _ _, ((hk1.trans hk3).step hx4 (by intros; (try simp only [] at *); omega))⟩
    · have hlen5 := open5 (l := l) (by omega) h20
      refine X.opw X.wN rfl (X.move (v := .bool false) rfl) ?_
      refine X.opw (X.wG rfl rfl rfl) rfl (X.move rfl) ?_
      refine X.opw (X.wG rfl rfl rfl) rfl (X.cutL Tryd.underlying22 Tryd.sizeOf5 rfl rfl (by omega)) ?_
      refine X.opE (X.wG rfl rfl rfl) rfl (X.callE (number_c _ (hs3.drop 1 _ (by omega) (by omega)) (by omega)) Tryd.call32 rfl rfl) ?_
      rintro _ w5 ⟨rfl, hk5⟩
      have hk5' := hk5.size
      refine X.opP (X.wG rfl rfl rfl) rfl rfl (X.gtr rfl rfl) (fun h25 => ?_) (fun h25 => ?_)
      · refine X.opw X.wN rfl (X.pickF (v := .bool true) rfl rfl) ?_
        refine X.opsEnd ?_
        refine X.condT rfl ?_
        refine X.seq ?_
        refine X.region ?_
        refine X.opw X.wN rfl (X.buildB (vs := []) (cs := #[.int .u8 0, .slice none 0 0]) rfl (by kernel_rfl)) ?_
        refine X.opE X.wN rfl (X.storeNE Tryd.sizeOf33 (hB1.keep (hk3.trans hk5)) rfl rfl rfl rfl (fun u hu => by simp at hu; rcases hu with rfl | rfl <;> rfl)) ?_
        rintro _ w6 ⟨hB6, hx6, hz6⟩
        refine X.opw X.wN rfl (X.assign rfl) ?_
        refine X.opw X.wN rfl (X.assign rfl) ?_
        refine X.opsEnd ?_
        refine X.ret_unw (X.unwR3 Tryd.func19 Tryd.results19 (X.ResOk.cell rfl (X.lvN Tryd.isAgg33 Tryd.sizeOf33 hB6 rfl)) (show X.ResOk _ _ _ (.tmp 3) (.int .i64 _) from rfl) (show X.ResOk _ _ _ (.tmp 4) (.int .i64 _) from rfl) ?_)
        rw [unf2 (by omega) (Or.inr (by omega))]
        exact ⟨_, rfl, Mine.nil _ _ _ _ _ _, (((hk1.trans hk3).trans hk5).step hx6 (by intros; (try simp only [] at *); omega))⟩
      · refine X.opw X.wN rfl (X.pickF (v := .bool false) rfl rfl) ?_
        refine X.opsEnd ?_
        refine X.condF rfl ?_
        refine X.skip ?_
        refine X.seq ?_
        refine X.region ?_
        refine X.opw X.wN rfl (X.move rfl) ?_
        refine X.opw X.wN rfl (X.cutL Tryd.underlying22 Tryd.sizeOf5 rfl rfl (by omega)) ?_
        refine X.opE X.wN rfl (X.callE (number_c _ ((hs3.drop 1 _ (by omega) (by omega)).keep hk5) (by omega)) Tryd.call32 rfl rfl) ?_
        rintro _ w7 ⟨rfl, hk7⟩
        have hk7' := hk7.size
        refine X.opw X.wN rfl (X.cvI Tryd.underlying27 Tryd.underlying3 rfl (X.w_i64 (by omega))) ?_
        refine X.opw X.wN rfl (X.assign (v := .int .i64 _) rfl) ?_
        refine X.opsEnd ?_
        refine X.seq ?_
        refine X.seq ?_
        refine X.region ?_
        refine X.opw X.wN rfl (X.move (v := .slice _ _ _) rfl) ?_
        refine X.opw X.wN rfl (X.lenSl Tryd.underlying22 rfl) ?_
        refine X.opw X.wN rfl (X.move (v := .int .i64 _) rfl) ?_
        refine X.opw X.wN rfl (X.add rfl rfl (X.w_i64 (by omega))) ?_
        refine X.opP X.wN rfl rfl (X.lss rfl rfl) (fun h36 => ?_) (fun h36 => ?_)
        · refine X.opsEnd ?_
          refine X.condT rfl ?_
          refine X.seq ?_
          refine X.region ?_
          refine X.opw X.wN rfl (X.buildB (vs := []) (cs := #[.int .u8 0, .slice none 0 0]) rfl (by kernel_rfl)) ?_
          refine X.opE X.wN rfl (X.storeNE Tryd.sizeOf33 (hB1.keep ((hk3.trans hk5).trans hk7)) rfl rfl rfl rfl (fun u hu => by simp at hu; rcases hu with rfl | rfl <;> rfl)) ?_
          rintro _ w8 ⟨hB8, hx8, hz8⟩
          refine X.opw X.wN rfl (X.assign rfl) ?_
          refine X.opw X.wN rfl (X.assign rfl) ?_
          refine X.opsEnd ?_
          refine X.ret_unw (X.unwR3 Tryd.func19 Tryd.results19 (X.ResOk.cell rfl (X.lvN Tryd.isAgg33 Tryd.sizeOf33 hB8 rfl)) (show X.ResOk _ _ _ (.tmp 3) (.int .i64 _) from rfl) (show X.ResOk _ _ _ (.tmp 4) (.int .i64 _) from rfl) ?_)
          rw [unf3 (by omega) h20 (by omega) (by omega)]
          exact ⟨_, rfl, Mine.nil _ _ _ _ _ _, ((((hk1.trans hk3).trans hk5).trans hk7).step hx8 (by intros; (try simp only [] at *); omega))⟩
        · refine X.opsEnd ?_
          refine X.condF rfl ?_
          refine X.skip ?_
          refine X.seq ?_
          refine X.region ?_
          refine X.opw X.wN rfl (X.move (v := .slice _ _ _) rfl) ?_
          refine X.opw X.wN rfl (X.move (v := .int .i64 _) rfl) ?_
          refine X.opw X.wN rfl (X.add rfl rfl (X.w_i64 (by omega))) ?_
          refine X.opw X.wN rfl (X.cutLH Tryd.underlying22 Tryd.sizeOf5 rfl rfl rfl (by omega)) ?_
          refine X.opE X.wN rfl (X.callE ((Open_c _ (((hs.take ((numC ((openC (l.take 9)).2.drop 1)).toNat + 13) (by omega)).drop 9 c (by omega) (by omega)).keep (((hk1.trans hk3).trans hk5).trans hk7)) (by omega) (by omega) (hT.keep (((hk1.trans hk3).trans hk5).trans hk7))).mono fresh2) Tryd.call11 rfl rfl) ?_
          rintro _ w9 ⟨A9, c9, rfl, hc9, hs9, hM9, hk9⟩
          have hk9' := hk9.size
          refine X.opw X.wN rfl (X.move rfl) ?_
          refine X.opw X.wN rfl (X.extr rfl rfl) ?_
          refine X.opw X.wN rfl (X.extr rfl rfl) ?_
          refine X.opw X.wN rfl (X.assign rfl) ?_
          refine X.opw X.wN rfl (X.assign (v := .int .i64 _) rfl) ?_
          refine X.opsEnd ?_
          refine X.seq ?_
          refine X.seq ?_
          refine X.region ?_
          refine X.opw X.wN rfl (X.move (v := .int .i64 _) rfl) ?_
          refine X.opP X.wN rfl rfl (X.neI rfl rfl) (fun h47 => ?_) (fun h47 => ?_)
          · refine X.opsEnd ?_
            refine X.condT rfl ?_
            refine X.seq ?_
            refine X.region ?_
            refine X.opw X.wN rfl (X.buildB (vs := []) (cs := #[.int .u8 0, .slice none 0 0]) rfl (by kernel_rfl)) ?_
            refine X.opw X.wN rfl (X.move (v := .int .i64 _) rfl) ?_
            refine X.opE X.wN rfl (X.storeNE Tryd.sizeOf33 (hB1.keep (((hk3.trans hk5).trans hk7).trans hk9)) rfl rfl rfl rfl (fun u hu => by simp at hu; rcases hu with rfl | rfl <;> rfl)) ?_
            rintro _ w10 ⟨hB10, hx10, hz10⟩
            refine X.opw X.wN rfl (X.assign rfl) ?_
            refine X.opw X.wN rfl (X.assign (v := .int .i64 _) rfl) ?_
            refine X.opsEnd ?_
            refine X.ret_unw (X.unwR3 Tryd.func19 Tryd.results19 (X.ResOk.cell rfl (X.lvN Tryd.isAgg33 Tryd.sizeOf33 hB10 rfl)) (show X.ResOk _ _ _ (.tmp 3) (.int .i64 _) from rfl) (show X.ResOk _ _ _ (.tmp 4) (.int .i64 _) from rfl) ?_)
            rw [unf4 ((numC ((openC (l.take 9)).2.drop 1)).toNat + 13) (by omega) (by omega) h20 (by omega) (by omega) h47]
            exact ⟨_, rfl, Mine.nil _ _ _ _ _ _, (((((hk1.trans hk3).trans hk5).trans hk7).trans hk9).step hx10 (by intros; (try simp only [] at *); omega))⟩
          · obtain ⟨k0, t0, hk0⟩ := cons_of hlen5
            refine X.opsEnd ?_
            refine X.condF rfl ?_
            refine X.skip ?_
            refine X.seq ?_
            refine X.region ?_
            refine X.opw X.wN rfl (X.move rfl) ?_
            refine X.opw X.wN rfl (X.idxS (hs3.keep ((hk5.trans hk7).trans hk9)) Tryd.underlying22 Tryd.sizeOf5 rfl rfl ⟨by omega, by omega⟩) ?_
            refine X.opw X.wN rfl (X.loadS Tryd.isAgg5 (hs3.keep ((hk5.trans hk7).trans hk9)) (j := 0) (y := k0) (by rw [hk0]; rfl) rfl (fun _ h => by rw [h.1]; rfl)) ?_
            refine X.opw X.wN rfl (X.move rfl) ?_
            refine X.opw X.wN rfl (X.buildB (vs := [(0, .int .u8 (k0.toNat : Int)), (1, .slice A9 _ c9)]) (cs := #[.int .u8 (k0.toNat : Int), .slice A9 (openC ((l.take ((numC ((openC (l.take 9)).2.drop 1)).toNat + 13)).drop 9)).2.length c9]) rfl (by kernel_rfl)) ?_
            refine X.opw X.wN rfl (X.move (v := .int .i64 _) rfl) ?_
            refine X.opw X.wN rfl (X.add rfl rfl (X.w_i64 (by omega))) ?_
            refine X.opE X.wN rfl (X.storeNE Tryd.sizeOf33 (hB1.keep (((hk3.trans hk5).trans hk7).trans hk9)) rfl rfl rfl rfl (fun u hu => by simp at hu; rcases hu with rfl | rfl <;> rfl)) ?_
            rintro _ w11 ⟨hB11, hx11, hz11⟩
            refine X.opw X.wN rfl (X.assign (v := .int .i64 _) rfl) ?_
            refine X.opw X.wN rfl (X.assign rfl) ?_
            refine X.opsEnd ?_
            refine X.ret_unw (X.unwR3 Tryd.func19 Tryd.results19 (X.ResOk.cell rfl (X.lvN Tryd.isAgg33 Tryd.sizeOf33 hB11 rfl)) (show X.ResOk _ _ _ (.tmp 3) (.int .i64 _) from rfl) (show X.ResOk _ _ _ (.tmp 4) (.int .i64 _) from rfl) ?_)
            rw [unf5 ((numC ((openC (l.take 9)).2.drop 1)).toNat + 13) (by omega) (by omega) h20 (by omega) (by omega) h47 hk0]
            exact ⟨_, rfl, ((hM9.ext hx11 (by intros; (try simp only []); omega) (by intros; (try simp only []); omega)).step (T := fun k => w.heap.size ≤ k) (fun k h => by (try simp only [] at *); omega)), (((((hk1.trans hk3).trans hk5).trans hk7).trans hk9).step hx11 (by intros; (try simp only [] at *); omega))⟩
-- f27 "pedigree/pedigreeref04.Unframe" params [22] results [33, 3, 24] -> [(ResultVar.cell 2 33), (ResultVar.
set_option maxHeartbeats 4000000 in
set_option maxRecDepth 100000 in
theorem RUnframe_c {lo hi : Nat} {A : Option Addr} {n c : Nat} {l : List UInt8} (w : World) (hs : Sl KB lo hi w A n l) (hnc : n ≤ c) (hn : n ≤ 2000000) : Ret Tryd.prog 27 #[.slice A n c] w fun r w' => ∃ v, r = .tuple #[.agg #[.int .u8 ((unframeC l).2.1.toNat : Int), v], .int .i64 (unframeC l).2.2.2, .int .i64 (unframeC l).1] ∧ Fresh KB 5 w w' v (unframeC l).2.2.1 := by
  have hl := hs.len
  refine X.enter Tryd.func27 rfl Tryd.ntmps27 rfl ?_
  refine X.seq ?_
  refine X.region ?_
  refine X.opE X.wN rfl (X.allocE Tryd.zeroValue33 rfl) ?_
  rintro _ w1 ⟨rfl, hB1, hk1, hz1⟩
  refine X.opw X.wN rfl (X.assign rfl) ?_
  refine X.opw X.wN rfl (X.assign rfl) ?_
  refine X.opsEnd ?_
  refine X.seq ?_
  refine X.seq ?_
  refine X.region ?_
  refine X.opw X.wN rfl (X.move (v := .slice _ _ _) rfl) ?_
  refine X.opw X.wN rfl (X.lenSl Tryd.underlying22 rfl) ?_
  refine X.opP X.wN rfl rfl (X.lss rfl rfl) (fun h12 => ?_) (fun h12 => ?_)
  · refine X.opsEnd ?_
    refine X.condT rfl ?_
    refine X.seq ?_
    refine X.region ?_
    refine X.opw X.wN rfl (X.buildB (vs := []) (cs := #[.int .u8 0, .slice none 0 0]) rfl (by kernel_rfl)) ?_
    refine X.opE X.wN rfl (X.storeNE Tryd.sizeOf33 hB1 rfl rfl rfl rfl (fun u hu => by simp at hu; rcases hu with rfl | rfl <;> rfl)) ?_
    rintro _ w2 ⟨hB2, hx2, hz2⟩
    refine X.opw X.wN rfl (X.assign rfl) ?_
    refine X.opw X.wN rfl (X.assign rfl) ?_
    refine X.opsEnd ?_
    refine X.ret_unw (X.unwR3 Tryd.func27 Tryd.results27 (X.ResOk.cell rfl (X.lvN Tryd.isAgg33 Tryd.sizeOf33 hB2 rfl)) (show X.ResOk _ _ _ (.tmp 3) (.int .i64 _) from rfl) (show X.ResOk _ _ _ (.tmp 4) (.int .i64 _) from rfl) ?_)
    rw [unf1 (by omega)]
    exact ⟨_, rfl, Mine.nil _ _ _ _ _ _, (hk1.step hx2 (by intros; (try simp only [] at *); omega))⟩
  · refine X.opsEnd ?_
    refine X.condF rfl ?_
    refine X.skip ?_
    refine X.seq ?_
    refine X.region ?_
    refine X.opw X.wN rfl (X.move (v := .slice _ _ _) rfl) ?_
    refine X.opw X.wN rfl (X.cutHr Tryd.underlying22 Tryd.sizeOf5 rfl rfl (by omega)) ?_
    refine X.opE X.wN rfl (X.callE ((ROpen_c _ ((hs.take 9 (by omega)).keep hk1) (by omega) (by omega)).mono fresh2) Tryd.call12 rfl rfl) ?_
    rintro _ w3 ⟨A3, c3, rfl, hc3, hs3, hM3, hk3⟩
    have hk3' := hk3.size
    refine X.opw X.wN rfl (X.move rfl) ?_
    refine X.opw X.wN rfl (X.extr rfl rfl) ?_
    refine X.opw X.wN rfl (X.extr rfl rfl) ?_
    refine X.opw X.wN rfl (X.assign rfl) ?_
    refine X.opw X.wN rfl (X.assign (v := .int .i64 _) rfl) ?_
    refine X.opsEnd ?_
    refine X.seq ?_
    refine X.seq ?_
    refine X.region ?_
    refine X.opw X.wN rfl (X.move (v := .int .i64 _) rfl) ?_
    refine X.opP X.wN rfl rfl (X.neI rfl rfl) (fun h21 => ?_) (fun h21 => ?_)
    · refine X.opw X.wN rfl (X.move (v := .bool true) rfl) ?_
      refine X.opS rfl rfl rfl rfl rfl ?_
      refine X.opS rfl rfl rfl rfl rfl ?_
      refine X.opS rfl rfl rfl rfl rfl ?_
      refine X.opS rfl rfl rfl rfl rfl ?_
      refine X.opw X.wN rfl (X.pickT (v := .bool true) rfl rfl) ?_
      refine X.opsEnd ?_
      refine X.condT rfl ?_
      refine X.seq ?_
      refine X.region ?_
      refine X.opw X.wN rfl (X.buildB (vs := []) (cs := #[.int .u8 0, .slice none 0 0]) rfl (by kernel_rfl)) ?_
      refine X.opE X.wN rfl (X.storeNE Tryd.sizeOf33 (hB1.keep hk3) rfl rfl rfl rfl (fun u hu => by simp at hu; rcases hu with rfl | rfl <;> rfl)) ?_
      rintro _ w4 ⟨hB4, hx4, hz4⟩
      refine X.opw X.wN rfl (X.assign rfl) ?_
      refine X.opw X.wN rfl (X.assign rfl) ?_
      refine X.opsEnd ?_
      refine X.ret_unw (X.unwR3 Tryd.func27 Tryd.results27 (X.ResOk.cell rfl (X.lvN Tryd.isAgg33 Tryd.sizeOf33 hB4 rfl)) (show X.ResOk _ _ _ (.tmp 3) (.int .i64 _) from rfl) (show X.ResOk _ _ _ (.tmp 4) (.int .i64 _) from rfl) ?_)
      rw [unf2 (by omega) (Or.inl h21)]
      exact ⟨_, rfl, Mine.nil _ _ _ _ _ _, ((hk1.trans hk3).step hx4 (by intros; (try simp only [] at *); omega))⟩
    · have hlen5 := open5 (l := l) (by omega) h21
      refine X.opw X.wN rfl (X.move (v := .bool false) rfl) ?_
      refine X.opw (X.wG rfl rfl rfl) rfl (X.move rfl) ?_
      refine X.opw (X.wG rfl rfl rfl) rfl (X.cutL Tryd.underlying22 Tryd.sizeOf5 rfl rfl (by omega)) ?_
      refine X.opE (X.wG rfl rfl rfl) rfl (X.callE (get_c _ (hs3.drop 1 _ (by omega) (by omega)) (by omega)) Tryd.call34 rfl rfl) ?_
      rintro _ w5 ⟨rfl, hk5⟩
      have hk5' := hk5.size
      refine X.opP (X.wG rfl rfl rfl) rfl rfl (X.gtr rfl rfl) (fun h26 => ?_) (fun h26 => ?_)
      · refine X.opw X.wN rfl (X.pickF (v := .bool true) rfl rfl) ?_
        refine X.opsEnd ?_
        refine X.condT rfl ?_
        refine X.seq ?_
        refine X.region ?_
        refine X.opw X.wN rfl (X.buildB (vs := []) (cs := #[.int .u8 0, .slice none 0 0]) rfl (by kernel_rfl)) ?_
        refine X.opE X.wN rfl (X.storeNE Tryd.sizeOf33 (hB1.keep (hk3.trans hk5)) rfl rfl rfl rfl (fun u hu => by simp at hu; rcases hu with rfl | rfl <;> rfl)) ?_
        rintro _ w6 ⟨hB6, hx6, hz6⟩
        refine X.opw X.wN rfl (X.assign rfl) ?_
        refine X.opw X.wN rfl (X.assign rfl) ?_
        refine X.opsEnd ?_
        refine X.ret_unw (X.unwR3 Tryd.func27 Tryd.results27 (X.ResOk.cell rfl (X.lvN Tryd.isAgg33 Tryd.sizeOf33 hB6 rfl)) (show X.ResOk _ _ _ (.tmp 3) (.int .i64 _) from rfl) (show X.ResOk _ _ _ (.tmp 4) (.int .i64 _) from rfl) ?_)
        rw [unf2 (by omega) (Or.inr (by omega))]
        exact ⟨_, rfl, Mine.nil _ _ _ _ _ _, (((hk1.trans hk3).trans hk5).step hx6 (by intros; (try simp only [] at *); omega))⟩
      · refine X.opw X.wN rfl (X.pickF (v := .bool false) rfl rfl) ?_
        refine X.opsEnd ?_
        refine X.condF rfl ?_
        refine X.skip ?_
        refine X.seq ?_
        refine X.region ?_
        refine X.opw X.wN rfl (X.move rfl) ?_
        refine X.opw X.wN rfl (X.cutL Tryd.underlying22 Tryd.sizeOf5 rfl rfl (by omega)) ?_
        refine X.opE X.wN rfl (X.callE (get_c _ ((hs3.drop 1 _ (by omega) (by omega)).keep hk5) (by omega)) Tryd.call34 rfl rfl) ?_
        rintro _ w7 ⟨rfl, hk7⟩
        have hk7' := hk7.size
        refine X.opw X.wN rfl (X.cvI Tryd.underlying27 Tryd.underlying3 rfl (X.w_i64 (by omega))) ?_
        refine X.opw X.wN rfl (X.assign (v := .int .i64 _) rfl) ?_
        refine X.opsEnd ?_
        refine X.seq ?_
        refine X.seq ?_
        refine X.region ?_
        refine X.opw X.wN rfl (X.move (v := .slice _ _ _) rfl) ?_
        refine X.opw X.wN rfl (X.lenSl Tryd.underlying22 rfl) ?_
        refine X.opw X.wN rfl (X.sub rfl rfl (X.w_i64 (by omega))) ?_
        refine X.opw X.wN rfl (X.move (v := .int .i64 _) rfl) ?_
        refine X.opP X.wN rfl rfl (X.lss rfl rfl) (fun h37 => ?_) (fun h37 => ?_)
        · refine X.opsEnd ?_
          refine X.condT rfl ?_
          refine X.seq ?_
          refine X.region ?_
          refine X.opw X.wN rfl (X.buildB (vs := []) (cs := #[.int .u8 0, .slice none 0 0]) rfl (by kernel_rfl)) ?_
          refine X.opE X.wN rfl (X.storeNE Tryd.sizeOf33 (hB1.keep ((hk3.trans hk5).trans hk7)) rfl rfl rfl rfl (fun u hu => by simp at hu; rcases hu with rfl | rfl <;> rfl)) ?_
          rintro _ w8 ⟨hB8, hx8, hz8⟩
          refine X.opw X.wN rfl (X.assign rfl) ?_
          refine X.opw X.wN rfl (X.assign rfl) ?_
          refine X.opsEnd ?_
          refine X.ret_unw (X.unwR3 Tryd.func27 Tryd.results27 (X.ResOk.cell rfl (X.lvN Tryd.isAgg33 Tryd.sizeOf33 hB8 rfl)) (show X.ResOk _ _ _ (.tmp 3) (.int .i64 _) from rfl) (show X.ResOk _ _ _ (.tmp 4) (.int .i64 _) from rfl) ?_)
          rw [unf3 (by omega) h21 (by omega) (by omega)]
          exact ⟨_, rfl, Mine.nil _ _ _ _ _ _, ((((hk1.trans hk3).trans hk5).trans hk7).step hx8 (by intros; (try simp only [] at *); omega))⟩
        · refine X.opsEnd ?_
          refine X.condF rfl ?_
          refine X.skip ?_
          refine X.seq ?_
          refine X.region ?_
          refine X.opw X.wN rfl (X.move (v := .slice _ _ _) rfl) ?_
          refine X.opw X.wN rfl (X.move (v := .int .i64 _) rfl) ?_
          refine X.opw X.wN rfl (X.add rfl rfl (X.w_i64 (by omega))) ?_
          refine X.opw X.wN rfl (X.cutLH Tryd.underlying22 Tryd.sizeOf5 rfl rfl rfl (by omega)) ?_
          refine X.opE X.wN rfl (X.callE ((ROpen_c _ (((hs.take (13 + (numC ((openC (l.take 9)).2.drop 1)).toNat) (by omega)).drop 9 c (by omega) (by omega)).keep (((hk1.trans hk3).trans hk5).trans hk7)) (by omega) (by omega)).mono fresh2) Tryd.call12 rfl rfl) ?_
          rintro _ w9 ⟨A9, c9, rfl, hc9, hs9, hM9, hk9⟩
          have hk9' := hk9.size
          refine X.opw X.wN rfl (X.move rfl) ?_
          refine X.opw X.wN rfl (X.extr rfl rfl) ?_
          refine X.opw X.wN rfl (X.extr rfl rfl) ?_
          refine X.opw X.wN rfl (X.assign rfl) ?_
          refine X.opw X.wN rfl (X.assign (v := .int .i64 _) rfl) ?_
          refine X.opsEnd ?_
          refine X.seq ?_
          refine X.seq ?_
          refine X.region ?_
          refine X.opw X.wN rfl (X.move (v := .int .i64 _) rfl) ?_
          refine X.opP X.wN rfl rfl (X.neI rfl rfl) (fun h48 => ?_) (fun h48 => ?_)
          · refine X.opsEnd ?_
            refine X.condT rfl ?_
            refine X.seq ?_
            refine X.region ?_
            refine X.opw X.wN rfl (X.buildB (vs := []) (cs := #[.int .u8 0, .slice none 0 0]) rfl (by kernel_rfl)) ?_
            refine X.opw X.wN rfl (X.move (v := .int .i64 _) rfl) ?_
            refine X.opE X.wN rfl (X.storeNE Tryd.sizeOf33 (hB1.keep (((hk3.trans hk5).trans hk7).trans hk9)) rfl rfl rfl rfl (fun u hu => by simp at hu; rcases hu with rfl | rfl <;> rfl)) ?_
            rintro _ w10 ⟨hB10, hx10, hz10⟩
            refine X.opw X.wN rfl (X.assign rfl) ?_
            refine X.opw X.wN rfl (X.assign (v := .int .i64 _) rfl) ?_
            refine X.opsEnd ?_
            refine X.ret_unw (X.unwR3 Tryd.func27 Tryd.results27 (X.ResOk.cell rfl (X.lvN Tryd.isAgg33 Tryd.sizeOf33 hB10 rfl)) (show X.ResOk _ _ _ (.tmp 3) (.int .i64 _) from rfl) (show X.ResOk _ _ _ (.tmp 4) (.int .i64 _) from rfl) ?_)
            rw [unf4 (13 + (numC ((openC (l.take 9)).2.drop 1)).toNat) (by omega) (by omega) h21 (by omega) (by omega) h48]
            exact ⟨_, rfl, Mine.nil _ _ _ _ _ _, (((((hk1.trans hk3).trans hk5).trans hk7).trans hk9).step hx10 (by intros; (try simp only [] at *); omega))⟩
          · obtain ⟨k0, t0, hk0⟩ := cons_of hlen5
            refine X.opsEnd ?_
            refine X.condF rfl ?_
            refine X.skip ?_
            refine X.seq ?_
            refine X.region ?_
            refine X.opw X.wN rfl (X.move rfl) ?_
            refine X.opw X.wN rfl (X.idxS (hs3.keep ((hk5.trans hk7).trans hk9)) Tryd.underlying22 Tryd.sizeOf5 rfl rfl ⟨by omega, by omega⟩) ?_
            refine X.opw X.wN rfl (X.loadS Tryd.isAgg5 (hs3.keep ((hk5.trans hk7).trans hk9)) (j := 0) (y := k0) (by rw [hk0]; rfl) rfl (fun _ h => by rw [h.1]; rfl)) ?_
            refine X.opw X.wN rfl (X.move rfl) ?_
            refine X.opw X.wN rfl (X.buildB (vs := [(0, .int .u8 (k0.toNat : Int)), (1, .slice A9 _ c9)]) (cs := #[.int .u8 (k0.toNat : Int), .slice A9 (openC ((l.take (13 + (numC ((openC (l.take 9)).2.drop 1)).toNat)).drop 9)).2.length c9]) rfl (by kernel_rfl)) ?_
            refine X.opw X.wN rfl (X.move (v := .int .i64 _) rfl) ?_
            refine X.opw X.wN rfl (X.add rfl rfl (X.w_i64 (by omega))) ?_
            refine X.opE X.wN rfl (X.storeNE Tryd.sizeOf33 (hB1.keep (((hk3.trans hk5).trans hk7).trans hk9)) rfl rfl rfl rfl (fun u hu => by simp at hu; rcases hu with rfl | rfl <;> rfl)) ?_
            rintro _ w11 ⟨hB11, hx11, hz11⟩
            refine X.opw X.wN rfl (X.assign (v := .int .i64 _) rfl) ?_
            refine X.opw X.wN rfl (X.assign rfl) ?_
            refine X.opsEnd ?_
            refine X.ret_unw (X.unwR3 Tryd.func27 Tryd.results27 (X.ResOk.cell rfl (X.lvN Tryd.isAgg33 Tryd.sizeOf33 hB11 rfl)) (show X.ResOk _ _ _ (.tmp 3) (.int .i64 _) from rfl) (show X.ResOk _ _ _ (.tmp 4) (.int .i64 _) from rfl) ?_)
            rw [unf5 (13 + (numC ((openC (l.take 9)).2.drop 1)).toNat) (by omega) (by omega) h21 (by omega) (by omega) h48 hk0]
            exact ⟨_, rfl, ((hM9.ext hx11 (by intros; (try simp only []); omega) (by intros; (try simp only []); omega)).step (T := fun k => w.heap.size ≤ k) (fun k h => by (try simp only [] at *); omega)), (((((hk1.trans hk3).trans hk5).trans hk7).trans hk9).step hx11 (by intros; (try simp only [] at *); omega))⟩
end Go.Proofs.YtleaidgngkfjbaaDoor
