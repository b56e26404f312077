/- The walk of the law CrcFrames. -/
import Derived.Test.YtleaidgngkfjbaaDoorCrcW
namespace Go.Proofs.YtleaidgngkfjbaaDoor
open Go Go.Proofs.YtleaidgngkfjbaaDoor.X
set_option linter.unusedVariables false
set_option linter.unusedSimpArgs false
-- f7 "pedigree/pedigreelaw04.CrcFrames" params [33, 22] results [4] -> [(ResultVar.tmp 4)] nfree 0 ntmps 95 n
set_option maxHeartbeats 4000000 in
set_option maxRecDepth 100000 in
theorem CrcFrames_c (w : World) (hT : TabOk w) (cs : Array Value) (y : UInt8 × List UInt8) (g : (Kd.pair KB (Kd.slice KB)).R 0 w.heap.size w y cs.toList) (A2 : Option Addr) (n2 c2 : Nat) (l2 : List UInt8) (hc2 : n2 ≤ c2) (s2 : Sl KB 0 w.heap.size w A2 n2 l2) :
    Ret Tryd.prog 7 #[.agg cs, .slice A2 n2 c2] w fun r w' => r = .bool true ∧ Keep w w' := by
  obtain ⟨k, l⟩ := y
  obtain ⟨a, b, e, ⟨rfl, _⟩, ⟨A, n, c, rfl, hnc, hs0⟩⟩ := g
  obtain rfl : cs = #[.int .u8 (k.toNat : Int), .slice A n c] := Array.toList_inj.1 e
  have hs : Sl KB 0 w.heap.size w A n l := hs0
  refine X.enter Tryd.func7 rfl Tryd.ntmps7 rfl ?_
  refine X.seq ?_
  refine X.region ?_
  refine X.opE X.wN rfl (X.boxE rfl rfl) ?_
  rintro _ w1 ⟨rfl, hB1, hk1, hz1⟩
  refine X.opw X.wN rfl (X.assign rfl) ?_
  refine X.opsEnd ?_
  refine X.seq ?_
  refine X.region ?_
  refine X.opw X.wN rfl (X.loadNB Tryd.isAgg33 Tryd.sizeOf33 hB1 rfl rfl rfl) ?_
  refine X.opE X.wN rfl (X.callE (piece_c k _ (hs.keep hk1) (by omega) (by omega)) Tryd.call24 rfl rfl) ?_
  rintro _ w2 ⟨m2, rfl, hmc2, hmt2, hs2, hk2⟩
  have hk2' := hk2.size
  refine X.opw X.wN rfl (X.move (v := .slice _ _ _) rfl) ?_
  refine X.opE X.wN rfl (X.callE (cut_c _ (s2.keep (hk1.trans hk2)) (by omega)) Tryd.call10 rfl rfl) ?_
  rintro _ w3 ⟨m3, rfl, hmc3, hmt3, hs3, hk3⟩
  have hk3' := hk3.size
  refine X.opE X.wN rfl (X.storeNE Tryd.sizeOf33 (hB1.keep (hk2.trans hk3)) rfl rfl rfl rfl (fun u hu => by simp at hu; rcases hu with rfl | rfl <;> rfl)) ?_
  rintro _ w4 ⟨hB4, hx4, hz4⟩
  refine X.opw X.wN rfl (X.assign (v := .slice _ _ _) rfl) ?_
  refine X.opsEnd ?_
  refine X.seq ?_
  refine X.region ?_
  refine X.opw X.wN rfl (X.loadNB Tryd.isAgg33 Tryd.sizeOf33 hB4 rfl rfl rfl) ?_
  refine X.opE X.wN rfl (X.callE ((Frame_c k _ (((hs2.keep hk3).ext hx4 (by intros; (try simp only []); omega))) (by omega) (by omega) (by omega) (hT.keep (((hk1.trans hk2).trans hk3).step hx4 (by intros; (try simp only [] at *); omega)))).mono fresh2) Tryd.call18 rfl rfl) ?_
  rintro _ w5 ⟨A5, c5, rfl, hc5, hs5, hM5, hk5⟩
  have hk5' := hk5.size
  refine X.opw X.wN rfl (X.move rfl) ?_
  refine X.opw X.wN rfl (X.extr rfl rfl) ?_
  refine X.opw X.wN rfl (X.extr rfl rfl) ?_
  refine X.opw X.wN rfl (X.assign rfl) ?_
  refine X.opw X.wN rfl (X.assign (v := .int .i64 _) rfl) ?_
  refine X.opsEnd ?_
  refine X.seq ?_
  refine X.region ?_
  refine X.opw X.wN rfl (X.loadNB Tryd.isAgg33 Tryd.sizeOf33 (hB4.keep hk5) rfl rfl rfl) ?_
  refine X.opE X.wN rfl (X.callE ((RFrame_c k _ ((((hs2.keep hk3).ext hx4 (by intros; (try simp only []); omega)).keep hk5)) (by omega) (by omega) (by omega)).mono fresh2) Tryd.call26 rfl rfl) ?_
  rintro _ w6 ⟨A6, c6, rfl, hc6, hs6, hM6, hk6⟩
  have hk6' := hk6.size
  refine X.opw X.wN rfl (X.move rfl) ?_
  refine X.opw X.wN rfl (X.extr rfl rfl) ?_
  refine X.opw X.wN rfl (X.extr rfl rfl) ?_
  refine X.opw X.wN rfl (X.assign rfl) ?_
  refine X.opw X.wN rfl (X.assign (v := .int .i64 _) rfl) ?_
  refine X.opsEnd ?_
  refine X.seq ?_
  refine X.region ?_
  refine X.opw X.wN rfl (X.move (v := .slice _ _ _) rfl) ?_
  refine X.opE X.wN rfl (X.callE ((Unframe_c _ ((hs3.ext hx4 (by intros; (try simp only []); omega)).keep (hk5.trans hk6)) (by omega) (by omega) (hT.keep (((((hk1.trans hk2).trans hk3).step hx4 (by intros; (try simp only [] at *); omega)).trans hk5).trans hk6))).mono fresh3) Tryd.call19 rfl rfl) ?_
  rintro _ w7 ⟨A7, c7, rfl, hc7, hs7, hM7, hk7⟩
  have hk7' := hk7.size
  refine X.opw X.wN rfl (X.move rfl) ?_
  refine X.opw X.wN rfl (X.extr rfl rfl) ?_
  refine X.opw X.wN rfl (X.extr rfl rfl) ?_
  refine X.opw X.wN rfl (X.extr rfl rfl) ?_
  refine X.opE X.wN rfl (X.allocE Tryd.zeroValue33 rfl) ?_
  rintro _ w8 ⟨rfl, hB8, hk8, hz8⟩
  refine X.opE X.wN rfl (X.storeNE Tryd.sizeOf33 hB8 rfl rfl rfl rfl (fun u hu => by simp at hu; rcases hu with rfl | rfl <;> rfl)) ?_
  rintro _ w9 ⟨hB9, hx9, hz9⟩
  refine X.opw X.wN rfl (X.assign (v := .int .i64 _) rfl) ?_
  refine X.opw X.wN rfl (X.assign (v := .int .i64 _) rfl) ?_
  refine X.opsEnd ?_
  refine X.seq ?_
  refine X.region ?_
  refine X.opw X.wN rfl (X.move (v := .slice _ _ _) rfl) ?_
  refine X.opE X.wN rfl (X.callE ((RUnframe_c _ ((hs3.ext hx4 (by intros; (try simp only []); omega)).keep ((((hk5.trans hk6).trans hk7).trans hk8).step hx9 (by intros; (try simp only [] at *); omega))) (by omega) (by omega)).mono fresh3) Tryd.call27 rfl rfl) ?_
  rintro _ w10 ⟨A10, c10, rfl, hc10, hs10, hM10, hk10⟩
  have hk10' := hk10.size
  refine X.opw X.wN rfl (X.move rfl) ?_
  refine X.opw X.wN rfl (X.extr rfl rfl) ?_
  refine X.opw X.wN rfl (X.extr rfl rfl) ?_
  refine X.opw X.wN rfl (X.extr rfl rfl) ?_
  refine X.opE X.wN rfl (X.allocE Tryd.zeroValue33 rfl) ?_
  rintro _ w11 ⟨rfl, hB11, hk11, hz11⟩
  refine X.opE X.wN rfl (X.storeNE Tryd.sizeOf33 hB11 rfl rfl rfl rfl (fun u hu => by simp at hu; rcases hu with rfl | rfl <;> rfl)) ?_
  rintro _ w12 ⟨hB12, hx12, hz12⟩
  refine X.opw X.wN rfl (X.assign (v := .int .i64 _) rfl) ?_
  refine X.opw X.wN rfl (X.assign (v := .int .i64 _) rfl) ?_
  refine X.opsEnd ?_
  refine X.seq ?_
  refine X.region ?_
  refine X.opw X.wN rfl (X.move (v := .slice _ _ _) rfl) ?_
  refine X.opE X.wN rfl (X.callE (Scan_c _ ((hs3.ext hx4 (by intros; (try simp only []); omega)).keep (((((((hk5.trans hk6).trans hk7).trans hk8).step hx9 (by intros; (try simp only [] at *); omega)).trans hk10).trans hk11).step hx12 (by intros; (try simp only [] at *); omega))) (by omega) (by omega) (by omega) (hT.keep (((((((((((hk1.trans hk2).trans hk3).step hx4 (by intros; (try simp only [] at *); omega)).trans hk5).trans hk6).trans hk7).trans hk8).step hx9 (by intros; (try simp only [] at *); omega)).trans hk10).trans hk11).step hx12 (by intros; (try simp only [] at *); omega)))) Tryd.call28 rfl rfl) ?_
  rintro _ w13 ⟨v13, G13, b13, rfl, hP13, hb13, hk13⟩
  have hk13' := hk13.size
  refine X.opw X.wN rfl (X.move rfl) ?_
  refine X.opw X.wN rfl (X.extr rfl rfl) ?_
  refine X.opw X.wN rfl (X.extr rfl rfl) ?_
  refine X.opw X.wN rfl (X.assign rfl) ?_
  refine X.opw X.wN rfl (X.assign (v := .int .i64 _) rfl) ?_
  refine X.opsEnd ?_
  refine X.seq ?_
  refine X.region ?_
  refine X.opw X.wN rfl (X.move (v := .slice _ _ _) rfl) ?_
  refine X.opE X.wN rfl (X.callE (RScan_c _ ((hs3.ext hx4 (by intros; (try simp only []); omega)).keep ((((((((hk5.trans hk6).trans hk7).trans hk8).step hx9 (by intros; (try simp only [] at *); omega)).trans hk10).trans hk11).step hx12 (by intros; (try simp only [] at *); omega)).trans hk13)) (by omega) (by omega) (by omega)) Tryd.call29 rfl rfl) ?_
  rintro _ w14 ⟨v14, G14, rfl, hP14, hk14⟩
  have hk14' := hk14.size
  refine X.opw X.wN rfl (X.move rfl) ?_
  refine X.opw X.wN rfl (X.extr rfl rfl) ?_
  refine X.opw X.wN rfl (X.extr rfl rfl) ?_
  refine X.opw X.wN rfl (X.assign rfl) ?_
  refine X.opw X.wN rfl (X.assign (v := .int .i64 _) rfl) ?_
  refine X.opsEnd ?_
  refine X.seq ?_
  refine X.region ?_
  refine X.opw X.wN rfl (X.move rfl) ?_
  refine X.opw X.wN rfl (X.str Tryd.underlying22 Tryd.underlying5 Tryd.underlying9 rfl KB_is rfl (hs5.keep ((((((((hk6.trans hk7).trans hk8).step hx9 (by intros; (try simp only [] at *); omega)).trans hk10).trans hk11).step hx12 (by intros; (try simp only [] at *); omega)).trans hk13).trans hk14))) ?_
  refine X.opw X.wN rfl (X.move rfl) ?_
  refine X.opw X.wN rfl (X.str Tryd.underlying22 Tryd.underlying5 Tryd.underlying9 rfl KB_is rfl (hs6.keep (((((((hk7.trans hk8).step hx9 (by intros; (try simp only [] at *); omega)).trans hk10).trans hk11).step hx12 (by intros; (try simp only [] at *); omega)).trans hk13).trans hk14))) ?_
  refine X.opP X.wN rfl rfl (X.eqD rfl rfl) (fun h59 => ?_) (fun h59 => ?_)
  · refine X.opw X.wN rfl (X.move (v := .bool true) rfl) ?_
    refine X.opw (X.wG rfl rfl rfl) rfl (X.move (v := .int .i64 _) rfl) ?_
    refine X.opw (X.wG rfl rfl rfl) rfl (X.move (v := .int .i64 _) rfl) ?_
    refine X.opP (X.wG rfl rfl rfl) rfl rfl (X.eqI rfl rfl) (fun h63 => ?_) (fun h63 => ?_)
    · refine X.opw X.wN rfl (X.pickT (v := .bool true) rfl rfl) ?_
      refine X.opw X.wN rfl (X.move (v := .bool true) rfl) ?_
      refine X.opw (X.wG rfl rfl rfl) rfl (X.loadNB Tryd.isAgg33 Tryd.sizeOf33 (hB9.keep ((((hk10.trans hk11).step hx12 (by intros; (try simp only [] at *); omega)).trans hk13).trans hk14)) rfl rfl rfl) ?_
      refine X.opE (X.wG rfl rfl rfl) rfl (X.litKE (K := (KRN 2)) (xs := [Operand.tmp 66]) (vs := [.agg #[.int .u8 ((unframeC (l2.take 3000)).2.1.toNat : Int), .slice A7 (unframeC (l2.take 3000)).2.2.1.length c7]]) (ys := [.agg #[.int .u8 ((unframeC (l2.take 3000)).2.1.toNat : Int), .slice A7 (unframeC (l2.take 3000)).2.2.1.length c7]]) Tryd.underlying51 Tryd.sizeOf33 Tryd.zeroValue33 rfl rfl rfl rfl rfl (reps1 rfl rfl)) ?_
      rintro _ w15 ⟨rfl, hs15, hB15, hk15, hz15⟩
      refine X.opw (X.wG rfl rfl rfl) rfl (X.loadNB Tryd.isAgg33 Tryd.sizeOf33 (hB12.keep ((hk13.trans hk14).trans hk15)) rfl rfl rfl) ?_
      refine X.opE (X.wG rfl rfl rfl) rfl (X.litKE (K := (KRN 2)) (xs := [Operand.tmp 68]) (vs := [.agg #[.int .u8 ((unframeC (l2.take 3000)).2.1.toNat : Int), .slice A10 (unframeC (l2.take 3000)).2.2.1.length c10]]) (ys := [.agg #[.int .u8 ((unframeC (l2.take 3000)).2.1.toNat : Int), .slice A10 (unframeC (l2.take 3000)).2.2.1.length c10]]) Tryd.underlying51 Tryd.sizeOf33 Tryd.zeroValue33 rfl rfl rfl rfl rfl (reps1 rfl rfl)) ?_
      rintro _ w16 ⟨rfl, hs16, hB16, hk16, hz16⟩
      refine X.opE (X.wG rfl rfl rfl) rfl (X.callE (Same_c _ (hs15.keep hk16) hs16 (show PData (fun _ => True) _ _ [((unframeC (l2.take 3000)).2.1, (unframeC (l2.take 3000)).2.2.1)] from ⟨⟨_, _, _, _, _, rfl, hc7, fun _ _ _ => trivial, (hs7.keep ((((((((hk8.step hx9 (by intros; (try simp only [] at *); omega)).trans hk10).trans hk11).step hx12 (by intros; (try simp only [] at *); omega)).trans hk13).trans hk14).trans hk15).trans hk16))⟩, trivial⟩) (show PData (fun _ => True) _ _ [((unframeC (l2.take 3000)).2.1, (unframeC (l2.take 3000)).2.2.1)] from ⟨⟨_, _, _, _, _, rfl, hc10, fun _ _ _ => trivial, (hs10.keep (((((hk11.step hx12 (by intros; (try simp only [] at *); omega)).trans hk13).trans hk14).trans hk15).trans hk16))⟩, trivial⟩)) Tryd.call30 rfl rfl) ?_
      rintro _ w17 ⟨rfl, hk17⟩
      have hk17' := hk17.size
      refine X.opw X.wN rfl (X.pickT (v := .bool _) rfl rfl) ?_
      refine X.opw X.wN rfl (X.move (v := .bool _) rfl) ?_
      refine X.forkO 72 rfl (fun h72 => ?_) (fun h72 => ?_)
      · refine X.opw (X.wG rfl rfl rfl) rfl (X.move (v := .int .i64 _) rfl) ?_
        refine X.opw (X.wG rfl rfl rfl) rfl (X.move (v := .int .i64 _) rfl) ?_
        refine X.opP (X.wG rfl rfl rfl) rfl rfl (X.eqI rfl rfl) (fun h75 => ?_) (fun h75 => ?_)
        · refine X.opw X.wN rfl (X.pickT (v := .bool true) rfl rfl) ?_
          refine X.opw X.wN rfl (X.move (v := .bool true) rfl) ?_
          refine X.opw (X.wG rfl rfl rfl) rfl (X.move (v := .int .i64 _) rfl) ?_
          refine X.opw (X.wG rfl rfl rfl) rfl (X.move (v := .int .i64 _) rfl) ?_
          refine X.opP (X.wG rfl rfl rfl) rfl rfl (X.eqI rfl rfl) (fun h80 => ?_) (fun h80 => ?_)
          · refine X.opw X.wN rfl (X.pickT (v := .bool true) rfl rfl) ?_
            refine X.opw X.wN rfl (X.move (v := .bool true) rfl) ?_
            refine X.opw (X.wG rfl rfl rfl) rfl (X.move rfl) ?_
            refine X.opw (X.wG rfl rfl rfl) rfl (X.move rfl) ?_
            obtain ⟨vq1, Aq1, cq1, rfl, hq1, hSq1, hDq1⟩ := ((hP13.keep (((hk14.trans hk15).trans hk16).trans hk17))).rd2
            obtain ⟨vq2, Aq2, cq2, rfl, hq2, hSq2, hDq2⟩ := ((hP14.keep ((hk15.trans hk16).trans hk17))).rd2
            refine X.opE (X.wG rfl rfl rfl) rfl (X.callE (Same_c _ hSq1 hSq2 hDq1 hDq2) Tryd.call30 rfl rfl) ?_
            rintro _ w18 ⟨rfl, hk18⟩
            have hk18' := hk18.size
            refine X.opw X.wN rfl (X.pickT (v := .bool _) rfl rfl) ?_
            refine X.opw X.wN rfl (X.move (v := .bool _) rfl) ?_
            refine X.forkO 87 rfl (fun h87 => ?_) (fun h87 => ?_)
            · refine X.opw (X.wG rfl rfl rfl) rfl (X.move (v := .int .i64 _) rfl) ?_
              refine X.opw (X.wG rfl rfl rfl) rfl (X.move (v := .int .i64 _) rfl) ?_
              refine X.opP (X.wG rfl rfl rfl) rfl rfl (X.eqI rfl rfl) (fun h90 => ?_) (fun h90 => ?_)
              · refine X.opw X.wN rfl (X.pickT (v := .bool true) rfl rfl) ?_
                refine X.opw X.wN rfl (X.move (v := .bool true) rfl) ?_
                refine X.opE (X.wG rfl rfl rfl) rfl (X.callE (awake_c _ (hT.keep (((((((((((((((((hk1.trans hk2).trans hk3).step hx4 (by intros; (try simp only [] at *); omega)).trans hk5).trans hk6).trans hk7).trans hk8).step hx9 (by intros; (try simp only [] at *); omega)).trans hk10).trans hk11).step hx12 (by intros; (try simp only [] at *); omega)).trans hk13).trans hk14).trans hk15).trans hk16).trans hk17).trans hk18))) Tryd.call17 rfl rfl) ?_
                rintro _ w19 ⟨rfl, hk19⟩
                have hk19' := hk19.size
                refine X.opw X.wN rfl (X.pickT (v := .bool _) rfl rfl) ?_
                refine X.opw X.wN rfl (X.assign (v := .bool _) rfl) ?_
                refine X.opsEnd ?_
                refine X.ret1 (v := (.bool _)) Tryd.func7 Tryd.results7 rfl ?_
                exact ⟨rfl, ((((((((((((((((((hk1.trans hk2).trans hk3).step hx4 (by intros; (try simp only [] at *); omega)).trans hk5).trans hk6).trans hk7).trans hk8).step hx9 (by intros; (try simp only [] at *); omega)).trans hk10).trans hk11).step hx12 (by intros; (try simp only [] at *); omega)).trans hk13).trans hk14).trans hk15).trans hk16).trans hk17).trans hk18).trans hk19)⟩
              · exact absurd rfl h90
            · simp at h87
          · exact absurd rfl h80
        · exact absurd rfl h75
      · simp at h72
    · exact absurd rfl h63
  · exact absurd rfl h59
end Go.Proofs.YtleaidgngkfjbaaDoor
