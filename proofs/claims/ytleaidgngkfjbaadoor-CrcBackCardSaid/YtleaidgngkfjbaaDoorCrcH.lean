/- What shows that the package answers at all. -/
import Derived.Test.YtleaidgngkfjbaaDoorCrcG
namespace Go.Proofs.YtleaidgngkfjbaaDoor
open Go Go.Proofs.YtleaidgngkfjbaaDoor.X
set_option linter.unusedVariables false
set_option linter.unusedSimpArgs false

theorem fresh3 {w : World} {u : Int × UInt8 × List UInt8 × Int} (r : Value) (w' : World) (h : ∃ v, r = .tuple #[.agg #[.int .u8 (u.2.1.toNat : Int), v], .int .i64 u.2.2.2, .int .i64 u.1] ∧ Fresh KB 5 w w' v u.2.2.1) : ∃ A c, r = .tuple #[.agg #[.int .u8 (u.2.1.toNat : Int), .slice A u.2.2.1.length c], .int .i64 u.2.2.2, .int .i64 u.1] ∧ u.2.2.1.length ≤ c ∧ Sl KB 0 w'.heap.size w' A u.2.2.1.length u.2.2.1 ∧ Mine KB 5 (fun k => w.heap.size ≤ k) 0 0 w' (.slice A u.2.2.1.length c) u.2.2.1 ∧ Keep w w' := by
  obtain ⟨v, h1, h2⟩ := h
  obtain ⟨A, c, rfl, hc, hs, hM, hk⟩ := h2.s KB_flat
  exact ⟨A, c, h1, hc, hs, hM, hk⟩
theorem k_ab : openC (sealC [97, 98]) = (0, [97, 98]) := by decide +kernel
theorem k_len : (sealC [97, 98]).length = 6 := by decide +kernel
theorem k_fr : frameC 7 [] = (0, (frameC 7 []).2) ∧ (frameC 7 []).2.length = 13 := by decide +kernel
theorem k_fr1 : (frameC 7 []).1 = 0 := by decide +kernel
theorem k_un : unframeC (frameC 7 []).2 = (0, 7, [], 13) := by decide +kernel
theorem k_sum : sumC [49, 50, 51, 52, 53, 54, 55, 56, 57] = BitVec.ofNat 32 3421780262 := by decide +kernel
theorem k_add : ~~~ (moreC (BitVec.ofNat 32 4294967295) [[49, 50, 51, 52], [53, 54, 55, 56, 57]].flatten) = BitVec.ofNat 32 3421780262 := by decide +kernel
-- f17 "pedigree/pedigreelaw04.awake" params [] results [4] -> [(ResultVar.tmp 0)] nfree 0 ntmps 80 names ["",
set_option maxHeartbeats 4000000 in
set_option maxRecDepth 100000 in
theorem awake_c (w : World) (hT : TabOk w) : Ret Tryd.prog 17 #[] w fun v w' => v = .bool true ∧ Keep w w' := by
  have hTl := hT.lt
  obtain ⟨kf1, kf2⟩ := k_fr
  refine X.enter Tryd.func17 rfl Tryd.ntmps17 rfl ?_
  refine X.seq ?_
  refine X.region ?_
  refine X.opw X.wN rfl (X.assign rfl) ?_
  refine X.opsEnd ?_
  refine X.seq ?_
  refine X.region ?_
  refine X.opE X.wN rfl (X.lit2B (x := 97) (y := 98) Tryd.underlying22 Tryd.sizeOf5 Tryd.zeroValue5 ⟨rfl, rfl⟩ ⟨rfl, rfl⟩) ?_
  rintro _ w1 ⟨rfl, hs1, hB1, hk1, hz1⟩
  refine X.opE X.wN rfl (X.cvSame Tryd.underlying22 Tryd.underlying5 hB1 hs1 rfl) ?_
  rintro _ w2 ⟨rfl, hs2, hx2, hz2⟩
  refine X.opE X.wN rfl (X.callE ((Seal_c _ hs2 (by omega) (by omega) (by (try simp only [k_len, kf2, List.length_append, List.length_cons, List.length_nil, List.length_take, List.length_drop, List.length_map, List.length_range]); omega) (hT.keep (hk1.step hx2 (by intros; (try simp only [] at *); omega)))).mono freshB) Tryd.call15 rfl rfl) ?_
  rintro _ w3 ⟨A3, c3, rfl, hc3, hs3, hM3, hk3⟩
  have hk3' := hk3.size
  refine X.opE X.wN rfl (X.callE ((Open_c _ hs3 (by omega) (by (try simp only [k_len, kf2, List.length_append, List.length_cons, List.length_nil, List.length_take, List.length_drop, List.length_map, List.length_range]); omega) (hT.keep ((hk1.step hx2 (by intros; (try simp only [] at *); omega)).trans hk3))).mono fresh2) Tryd.call11 rfl rfl) ?_
  rintro _ w4 ⟨A4, c4, rfl, hc4, hs4, hM4, hk4⟩
  have hk4' := hk4.size
  refine X.opw X.wN rfl (X.move rfl) ?_
  refine X.opw X.wN rfl (X.extr rfl rfl) ?_
  refine X.opw X.wN rfl (X.extr rfl rfl) ?_
  refine X.opw X.wN rfl (X.assign rfl) ?_
  refine X.opw X.wN rfl (X.assign (v := .int .i64 _) rfl) ?_
  refine X.opsEnd ?_
  refine X.seq ?_
  refine X.region ?_
  refine X.opw X.wN rfl (X.buildB (vs := [(0, .int .u8 7)]) (cs := #[.int .u8 7, .slice none 0 0]) rfl (by kernel_rfl)) ?_
  refine X.opE X.wN rfl (X.callE ((Frame_c 7 _ (Sl.nil KB 0 0 _ none) (by omega) (by omega) (by omega) (hT.keep (((hk1.step hx2 (by intros; (try simp only [] at *); omega)).trans hk3).trans hk4))).mono fresh2) Tryd.call18 rfl rfl) ?_
  rintro _ w5 ⟨A5, c5, rfl, hc5, hs5, hM5, hk5⟩
  have hk5' := hk5.size
  refine X.opw X.wN rfl (X.move rfl) ?_
  refine X.opw X.wN rfl (X.extr rfl rfl) ?_
  refine X.opw X.wN rfl (X.extr rfl rfl) ?_
  refine X.opw X.wN rfl (X.assign rfl) ?_
  refine X.opw X.wN rfl (X.assign (v := .int .i64 _) rfl) ?_
  refine X.opsEnd ?_
  refine X.seq ?_
  refine X.region ?_
  refine X.opw X.wN rfl (X.move rfl) ?_
  refine X.opE X.wN rfl (X.callE ((Unframe_c _ hs5 (by omega) (by (try simp only [k_len, kf2, List.length_append, List.length_cons, List.length_nil, List.length_take, List.length_drop, List.length_map, List.length_range]); omega) (hT.keep ((((hk1.step hx2 (by intros; (try simp only [] at *); omega)).trans hk3).trans hk4).trans hk5))).mono fresh3) Tryd.call19 rfl rfl) ?_
  rintro _ w6 ⟨A6, c6, rfl, hc6, hs6, hM6, hk6⟩
  have hk6' := hk6.size
  refine X.opw X.wN rfl (X.move rfl) ?_
  refine X.opw X.wN rfl (X.extr rfl rfl) ?_
  refine X.opw X.wN rfl (X.extr rfl rfl) ?_
  refine X.opw X.wN rfl (X.extr rfl rfl) ?_
  refine X.opE X.wN rfl (X.allocE Tryd.zeroValue33 rfl) ?_
  rintro _ w7 ⟨rfl, hB7, hk7, hz7⟩
  refine X.opE X.wN rfl (X.storeNE Tryd.sizeOf33 hB7 rfl rfl rfl rfl (fun u hu => by simp at hu; rcases hu with rfl | rfl <;> rfl)) ?_
  rintro _ w8 ⟨hB8, hx8, hz8⟩
  refine X.opw X.wN rfl (X.assign (v := .int .i64 _) rfl) ?_
  refine X.opw X.wN rfl (X.assign (v := .int .i64 _) rfl) ?_
  refine X.opsEnd ?_
  refine X.seq ?_
  refine X.region ?_
  refine X.opE X.wN rfl (X.callE (New_c _) Tryd.call20 rfl rfl) ?_
  rintro _ w9 ⟨rfl, hB9, hk9, hz9⟩
  refine X.opw X.wN rfl (X.assign rfl) ?_
  refine X.opsEnd ?_
  refine X.seq ?_
  refine X.region ?_
  refine X.opw X.wN rfl (X.move rfl) ?_
  refine X.opE X.wN rfl (X.litKF KB_flat (K := KB) (xs := [Operand.const (.int .u8 49), Operand.const (.int .u8 50), Operand.const (.int .u8 51), Operand.const (.int .u8 52)]) (vs := [.int .u8 49, .int .u8 50, .int .u8 51, .int .u8 52]) (ys := [49, 50, 51, 52]) Tryd.underlying22 Tryd.sizeOf5 Tryd.zeroValue5 rfl rfl rfl rfl rfl (repsB [49, 50, 51, 52])) ?_
  rintro _ w10 ⟨rfl, hs10, hB10, hk10, hz10⟩
  refine X.opE X.wN rfl (X.cvSame Tryd.underlying22 Tryd.underlying5 hB10 hs10 rfl) ?_
  rintro _ w11 ⟨rfl, hs11, hx11, hz11⟩
  refine X.opE X.wN rfl (X.litKF KB_flat (K := KB) (xs := [Operand.const (.int .u8 53), Operand.const (.int .u8 54), Operand.const (.int .u8 55), Operand.const (.int .u8 56), Operand.const (.int .u8 57)]) (vs := [.int .u8 53, .int .u8 54, .int .u8 55, .int .u8 56, .int .u8 57]) (ys := [53, 54, 55, 56, 57]) Tryd.underlying22 Tryd.sizeOf5 Tryd.zeroValue5 rfl rfl rfl rfl rfl (repsB [53, 54, 55, 56, 57])) ?_
  rintro _ w12 ⟨rfl, hs12, hB12, hk12, hz12⟩
  refine X.opE X.wN rfl (X.cvSame Tryd.underlying22 Tryd.underlying5 hB12 hs12 rfl) ?_
  rintro _ w13 ⟨rfl, hs13, hx13, hz13⟩
  refine X.opE X.wN rfl (X.litKF KR1_flat (K := KR1) (xs := [Operand.tmp 30, Operand.tmp 32]) (vs := [.slice (some ⟨w9.heap.size, 0, none⟩) 4 4, .slice (some ⟨w11.heap.size, 0, none⟩) 5 5]) (ys := [.slice (some ⟨w9.heap.size, 0, none⟩) 4 4, .slice (some ⟨w11.heap.size, 0, none⟩) 5 5]) Tryd.underlying38 Tryd.sizeOf22 Tryd.zeroValue22 rfl rfl rfl rfl rfl ⟨⟨_, rfl, rfl, rfl⟩, ⟨_, rfl, rfl, rfl⟩, trivial⟩) ?_
  rintro _ w14 ⟨rfl, hs14, hB14, hk14, hz14⟩
  refine X.opE X.wN rfl (X.callE (Add_c (BitVec.ofNat 32 4294967295) 0 (by omega) w8.heap.size (lo2 := w9.heap.size) (hi2 := w14.heap.size) (ls := [[49, 50, 51, 52], [53, 54, 55, 56, 57]]) _ (hB9.keep ((((hk10.step hx11 (by intros; (try simp only [] at *); omega)).trans hk12).step hx13 (by intros; (try simp only [] at *); omega)).trans hk14)) hs14 ⟨⟨_, _, _, rfl, by omega, ((hs11.keep ((hk12.step hx13 (by intros; (try simp only [] at *); omega)).trans hk14)).wide (by omega) (by omega))⟩, ⟨_, _, _, rfl, by omega, ((hs13.keep hk14).wide (by omega) (by omega))⟩, trivial⟩ (by omega) (by omega) (by omega) (by decide) (hT.keep (((((((((((((hk1.step hx2 (by intros; (try simp only [] at *); omega)).trans hk3).trans hk4).trans hk5).trans hk6).trans hk7).step hx8 (by intros; (try simp only [] at *); omega)).trans hk9).trans hk10).step hx11 (by intros; (try simp only [] at *); omega)).trans hk12).step hx13 (by intros; (try simp only [] at *); omega)).trans hk14))) Tryd.call21 rfl rfl) ?_
  rintro _ w15 ⟨rfl, hB15, hx15⟩
  have hx15' := hx15.size
  refine X.opsEnd ?_
  refine X.seq ?_
  refine X.region ?_
  refine X.opE X.wN rfl (X.litKF KB_flat (K := KB) (xs := [Operand.const (.int .u8 49), Operand.const (.int .u8 50), Operand.const (.int .u8 51), Operand.const (.int .u8 52), Operand.const (.int .u8 53), Operand.const (.int .u8 54), Operand.const (.int .u8 55), Operand.const (.int .u8 56), Operand.const (.int .u8 57)]) (vs := [.int .u8 49, .int .u8 50, .int .u8 51, .int .u8 52, .int .u8 53, .int .u8 54, .int .u8 55, .int .u8 56, .int .u8 57]) (ys := [49, 50, 51, 52, 53, 54, 55, 56, 57]) Tryd.underlying22 Tryd.sizeOf5 Tryd.zeroValue5 rfl rfl rfl rfl rfl (repsB [49, 50, 51, 52, 53, 54, 55, 56, 57])) ?_
  rintro _ w16 ⟨rfl, hs16, hB16, hk16, hz16⟩
  refine X.opE X.wN rfl (X.cvSame Tryd.underlying22 Tryd.underlying5 hB16 hs16 rfl) ?_
  rintro _ w17 ⟨rfl, hs17, hx17, hz17⟩
  refine X.opE X.wN rfl (X.callE (Sum_c _ hs17 (hT.keep ((((((((((((((((hk1.step hx2 (by intros; (try simp only [] at *); omega)).trans hk3).trans hk4).trans hk5).trans hk6).trans hk7).step hx8 (by intros; (try simp only [] at *); omega)).trans hk9).trans hk10).step hx11 (by intros; (try simp only [] at *); omega)).trans hk12).step hx13 (by intros; (try simp only [] at *); omega)).trans hk14).step hx15 (by intros; (try simp only [] at *); omega)).trans hk16).step hx17 (by intros; (try simp only [] at *); omega)))) Tryd.call13 rfl rfl) ?_
  rintro _ w18 ⟨rfl, hk18⟩
  have hk18' := hk18.size
  refine X.opP X.wN rfl rfl (X.eqI rfl rfl) (fun h38 => ?_) (fun h38 => ?_)
  · refine X.opw X.wN rfl (X.move (v := .bool true) rfl) ?_
    refine X.opw (X.wG rfl rfl rfl) rfl (X.move rfl) ?_
    refine X.opw (X.wG rfl rfl rfl) rfl (X.str Tryd.underlying22 Tryd.underlying5 Tryd.underlying9 rfl KB_is rfl (((hs4.keep (((((((((hk5.trans hk6).trans hk7).step hx8 (by intros; (try simp only [] at *); omega)).trans hk9).trans hk10).step hx11 (by intros; (try simp only [] at *); omega)).trans hk12).step hx13 (by intros; (try simp only [] at *); omega)).trans hk14)).ext hx15 (by intros; (try simp only []); omega)).keep ((hk16.step hx17 (by intros; (try simp only [] at *); omega)).trans hk18))) ?_
    refine X.opP (X.wG rfl rfl rfl) rfl rfl (X.eqD rfl rfl) (fun h42 => ?_) (fun h42 => ?_)
    · refine X.opw X.wN rfl (X.pickT (v := .bool true) rfl rfl) ?_
      refine X.opw X.wN rfl (X.move (v := .bool true) rfl) ?_
      refine X.opw (X.wG rfl rfl rfl) rfl (X.move (v := .int .i64 _) rfl) ?_
      refine X.opP (X.wG rfl rfl rfl) rfl rfl (X.eqI rfl rfl) (fun h46 => ?_) (fun h46 => ?_)
      · refine X.opw X.wN rfl (X.pickT (v := .bool true) rfl rfl) ?_
        refine X.opw X.wN rfl (X.move (v := .bool true) rfl) ?_
        refine X.opw (X.wG rfl rfl rfl) rfl (X.move rfl) ?_
        refine X.opw (X.wG rfl rfl rfl) rfl (X.lenSl Tryd.underlying22 rfl) ?_
        refine X.opP (X.wG rfl rfl rfl) rfl rfl (X.eqI rfl rfl) (fun h51 => ?_) (fun h51 => ?_)
        · refine X.opw X.wN rfl (X.pickT (v := .bool true) rfl rfl) ?_
          refine X.opw X.wN rfl (X.move (v := .bool true) rfl) ?_
          refine X.opw (X.wG rfl rfl rfl) rfl (X.move (v := .int .i64 _) rfl) ?_
          refine X.opP (X.wG rfl rfl rfl) rfl rfl (X.eqI rfl rfl) (fun h55 => ?_) (fun h55 => ?_)
          · refine X.opw X.wN rfl (X.pickT (v := .bool true) rfl rfl) ?_
            refine X.opw X.wN rfl (X.move (v := .bool true) rfl) ?_
            refine X.opw (X.wG rfl rfl rfl) rfl (X.fldB (j := 0) Tryd.underlying33 rfl rfl Tryd.sizeOf5 rfl) ?_
            refine X.opw (X.wG rfl rfl rfl) rfl (X.load1B Tryd.isAgg5 (((hB8.keep (((((hk9.trans hk10).step hx11 (by intros; (try simp only [] at *); omega)).trans hk12).step hx13 (by intros; (try simp only [] at *); omega)).trans hk14)).ext hx15 (by intros; (try simp only []); omega)).keep ((hk16.step hx17 (by intros; (try simp only [] at *); omega)).trans hk18)) rfl rfl) ?_
            refine X.opP (X.wG rfl rfl rfl) rfl rfl (X.eqI rfl rfl) (fun h60 => ?_) (fun h60 => ?_)
            · refine X.opw X.wN rfl (X.pickT (v := .bool true) rfl rfl) ?_
              refine X.opw X.wN rfl (X.move (v := .bool true) rfl) ?_
              refine X.opw (X.wG rfl rfl rfl) rfl (X.move (v := .int .i64 _) rfl) ?_
              refine X.opP (X.wG rfl rfl rfl) rfl rfl (X.eqI rfl rfl) (fun h64 => ?_) (fun h64 => ?_)
              · refine X.opw X.wN rfl (X.pickT (v := .bool true) rfl rfl) ?_
                refine X.opw X.wN rfl (X.move (v := .bool true) rfl) ?_
                refine X.opw (X.wG rfl rfl rfl) rfl (X.move (v := .int .i64 _) rfl) ?_
                refine X.opP (X.wG rfl rfl rfl) rfl rfl (X.eqI rfl rfl) (fun h68 => ?_) (fun h68 => ?_)
                · refine X.opw X.wN rfl (X.pickT (v := .bool true) rfl rfl) ?_
                  refine X.opw X.wN rfl (X.move (v := .bool true) rfl) ?_
                  refine X.opw (X.wG rfl rfl rfl) rfl (X.move rfl) ?_
                  refine X.opE (X.wG rfl rfl rfl) rfl (X.callE (ASum_c _ _ _ _ (hB15.keep ((hk16.step hx17 (by intros; (try simp only [] at *); omega)).trans hk18))) Tryd.call22 rfl rfl) ?_
                  rintro _ w19 ⟨rfl, hk19⟩
                  have hk19' := hk19.size
                  refine X.opP (X.wG rfl rfl rfl) rfl rfl (X.eqI rfl rfl) (fun h73 => ?_) (fun h73 => ?_)
                  · refine X.opw X.wN rfl (X.pickT (v := .bool true) rfl rfl) ?_
                    refine X.opw X.wN rfl (X.move (v := .bool true) rfl) ?_
                    refine X.opw (X.wG rfl rfl rfl) rfl (X.move rfl) ?_
                    refine X.opE (X.wG rfl rfl rfl) rfl (X.callE (ALen_c _ _ _ _ (hB15.keep (((hk16.step hx17 (by intros; (try simp only [] at *); omega)).trans hk18).trans hk19))) Tryd.call23 rfl rfl) ?_
                    rintro _ w20 ⟨rfl, hk20⟩
                    have hk20' := hk20.size
                    refine X.opw (X.wG rfl rfl rfl) rfl (X.eqI rfl rfl) ?_
                    refine X.opw X.wN rfl (X.pickT (v := .bool _) rfl rfl) ?_
                    refine X.opw X.wN rfl (X.assign (v := .bool _) rfl) ?_
                    refine X.opsEnd ?_
                    refine X.ret1 (v := (.bool _)) Tryd.func17 Tryd.results17 rfl ?_
                    exact ⟨rfl, (((((((((((((((((((hk1.step hx2 (by intros; (try simp only [] at *); omega)).trans hk3).trans hk4).trans hk5).trans hk6).trans hk7).step hx8 (by intros; (try simp only [] at *); omega)).trans hk9).trans hk10).step hx11 (by intros; (try simp only [] at *); omega)).trans hk12).step hx13 (by intros; (try simp only [] at *); omega)).trans hk14).step hx15 (by intros; (try simp only [] at *); omega)).trans hk16).step hx17 (by intros; (try simp only [] at *); omega)).trans hk18).trans hk19).trans hk20)⟩
                  · exact absurd (by simp only [k_add]; try rfl) h73
                · exact absurd (by simp only [k_un]; try rfl) h68
              · exact absurd (by simp only [k_un]; try rfl) h64
            · exact absurd (by simp only [k_un]; try rfl) h60
          · exact absurd (by simp only [k_fr1]; try rfl) h55
        · exact absurd (by simp only [kf2]; try rfl) h51
      · exact absurd (by simp only [k_ab]; try rfl) h46
    · exact absurd (by simp only [k_ab]; try rfl) h42
  · exact absurd (by simp only [k_sum]; try rfl) h38
end Go.Proofs.YtleaidgngkfjbaaDoor
