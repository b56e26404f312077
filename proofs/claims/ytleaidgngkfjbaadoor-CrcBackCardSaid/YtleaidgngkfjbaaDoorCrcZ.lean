/- The walk of the law CrcBack. -/
import Derived.Test.YtleaidgngkfjbaaDoorCrcY
namespace Go.Proofs.YtleaidgngkfjbaaDoor
open Go Go.Proofs.YtleaidgngkfjbaaDoor.X
set_option linter.unusedVariables false
set_option linter.unusedSimpArgs false

abbrev KP2 : Kd Value := KRN 2
theorem KP2_flat : Flat KP2 := KRN_flat 2
theorem PData_take {G : Nat → Prop} {w : World} : ∀ {vs : List Value} {ps : List PCE}, PData G w vs ps → ∀ j, PData G w (vs.take j) (ps.take j)
  | [], [], _, j => by simp; trivial
  | _ :: _, _ :: _, h, 0 => trivial
  | _ :: _, _ :: _, h, j + 1 => ⟨h.1, PData_take h.2 j⟩
  | [], _ :: _, h, _ => h.elim
  | _ :: _, [], h, _ => h.elim
-- f8 "pedigree/pedigreelaw04.CrcBack" params [51, 34] results [4] -> [(ResultVar.tmp 4)] nfree 0 ntmps 151 na
set_option maxHeartbeats 4000000 in
set_option maxRecDepth 100000 in
theorem CrcBack_c (w : World) (hT : TabOk w) (A1 : Option Addr) (n1 c1 : Nat) (l1 : List PCE) (hc1 : n1 ≤ c1) (s1 : Sl KPc 0 w.heap.size w A1 n1 l1) (a1 : Int) (g1 : (Lit.int .u64 a1).wf = true) :
    Ret Tryd.prog 8 #[.slice A1 n1 c1, .int .u64 a1] w fun r w' => r = .bool true ∧ Keep w w' := by
  obtain ⟨a, rfl, ha⟩ := u64_nat g1
  obtain ⟨vs, hsv, hdv⟩ := s1.pieces
  have hln := s1.len
  refine X.enter Tryd.func8 rfl Tryd.ntmps8 rfl ?_
  refine X.seq ?_
  refine X.region ?_
  refine X.opw X.wN rfl (X.assign rfl) ?_
  refine X.opsEnd ?_
  refine X.seq ?_
  refine X.seq ?_
  refine X.region ?_
  refine X.opE X.wN rfl (X.callE (awake_c _ (hT.keep (Keep.refl _))) Tryd.call17 rfl rfl) ?_
  rintro _ w1 ⟨rfl, hk1⟩
  have hk1' := hk1.size
  refine X.opw X.wN rfl (X.not_ rfl) ?_
  refine X.opsEnd ?_
  refine X.condF rfl ?_
  refine X.skip ?_
  refine X.seq ?_
  refine X.region ?_
  refine X.opw X.wN rfl (X.assign rfl) ?_
  refine X.opsEnd ?_
  refine X.seq ?_
  refine X.region ?_
  refine X.opw X.wN rfl (X.assign rfl) ?_
  refine X.opsEnd ?_
  refine X.seq ?_
  refine X.region ?_
  refine X.opw X.wN rfl (X.assign rfl) ?_
  refine X.opsEnd ?_
  refine X.seq ?_
  refine X.seq ?_
  refine X.region ?_
  refine X.opw X.wN rfl (X.assign rfl) ?_
  refine X.opsEnd ?_
  refine X.block ?_
  -- LOOP live: 0=l, 1=n, 5=all*, 6=ends*, 7=some*, 8=i*
  refine X.loopL (σ := Nat × Value × Value × Value × List PCE × (Nat → Prop) × (Nat → Prop) × (Nat → Prop)) (fun s => [(0, .slice A1 n1 c1), (1, .int .u64 (a : Int)), (5, s.2.1), (6, s.2.2.1), (7, s.2.2.2.1), (8, .int .i64 (s.1 : Int))]) (fun s w' => s.1 ≤ 12 ∧ s.1 ≤ n1 ∧ s.2.2.2.2.1.length = s.1 ∧ Small s.2.2.2.2.1 ∧ BK3 5 3 33 w.heap.size w'.heap.size w'.heap.size w'.heap.size s.2.2.2.2.2.1 s.2.2.2.2.2.2.1 s.2.2.2.2.2.2.2 w' s.2.1 s.2.2.1 s.2.2.2.1 (flatC s.2.2.2.2.1) (endsC s.2.2.2.2.1) s.2.2.2.2.1 ∧ Keep w w') (fun s => 12 - s.1) (0, _, _, _, [], fun _ => False, fun _ => False, fun _ => False) ⟨rfl, rfl, rfl, rfl, rfl, rfl, trivial⟩ ⟨by omega, by omega, rfl, fun _ h => by simp at h, BK3.nil _ _ _ _ _ _ (by omega) (Nat.le_refl _), hk1⟩ ?_
  rintro ⟨i, va, ve, vp, ps, Z1, Z2, Z3⟩ b0 wl ⟨hi1, hi2, hpl, hsm, hQ, hk⟩ hback
  dsimp only
  simp only at hi1 hi2 hpl hsm hQ
  obtain ⟨Aa, ca, Ae, ce, Ap, cp, vsp, rfl, rfl, rfl, hca, hce, hcp, hsA, hsE, hsP, hDP⟩ := hQ.rd
  have hF := flatC_le hsm
  have hEl := endsC_len ps
  have hk' := hk.size
  refine X.seq ?_
  refine X.seq ?_
  refine X.region ?_
  refine X.opw X.wN rfl (X.move (v := .int .i64 _) rfl) ?_
  refine X.opw X.wN rfl (X.move (v := .slice _ _ _) rfl) ?_
  refine X.opw X.wN rfl (X.lenSl Tryd.underlying51 rfl) ?_
  refine X.opP X.wN rfl rfl (X.lss rfl rfl) (fun h27 => ?_) (fun h27 => ?_)
  · refine X.opw X.wN rfl (X.move (v := .bool true) rfl) ?_
    refine X.opw (X.wG rfl rfl rfl) rfl (X.move (v := .int .i64 _) rfl) ?_
    refine X.opP (X.wG rfl rfl rfl) rfl rfl (X.lss rfl rfl) (fun h30 => ?_) (fun h30 => ?_)
    · obtain ⟨⟨k, l⟩, hp1⟩ := getN i hln h27
      obtain ⟨A, n, c, lo, hi, hxq, hnc, hqq⟩ := hdv.get hp1
      have hsl : Sl KB 0 w.heap.size w A n l := hqq.all KB_flat (by decide)
      have hmin := hsl.len
      refine X.opw X.wN rfl (X.pickT (v := .bool true) rfl rfl) ?_
      refine X.opsEnd ?_
      refine X.condT rfl ?_
      refine X.skip ?_
      refine X.seq ?_
      refine X.block ?_
      refine X.seq ?_
      refine X.region ?_
      refine X.opw X.wN rfl (X.move (v := .slice _ _ _) rfl) ?_
      refine X.opw X.wN rfl (X.move (v := .int .i64 _) rfl) ?_
      refine X.opw X.wN rfl (X.idxS (hsv.keep hk) Tryd.underlying51 Tryd.sizeOf33 rfl rfl ⟨by omega, by omega⟩) ?_
      refine X.opw X.wN rfl (X.loadSN Tryd.isAgg33 Tryd.sizeOf33 (hsv.keep hk) hxq rfl (fun _ h => KRN2 h) rfl) ?_
      refine X.opE X.wN rfl (X.callE (piece_c k _ (hsl.keep hk) (by omega) (by omega)) Tryd.call24 rfl rfl) ?_
      rintro _ w2 ⟨m2, rfl, hmc2, hmt2, hs2, hk2⟩
      have hk2' := hk2.size
      refine X.opE X.wN rfl (X.allocE Tryd.zeroValue33 rfl) ?_
      rintro _ w3 ⟨rfl, hB3, hk3, hz3⟩
      refine X.opE X.wN rfl (X.storeNE Tryd.sizeOf33 hB3 rfl rfl rfl rfl (fun u hu => by simp at hu; rcases hu with rfl | rfl <;> rfl)) ?_
      rintro _ w4 ⟨hB4, hx4, hz4⟩
      refine X.opsEnd ?_
      refine X.seq ?_
      refine X.seq ?_
      refine X.region ?_
      refine X.opw X.wN rfl (X.fldB (j := 1) Tryd.underlying33 rfl rfl Tryd.sizeOf22 rfl) ?_
      refine X.opw X.wN rfl (X.load1B Tryd.isAgg22 hB4 rfl rfl) ?_
      refine X.opw X.wN rfl (X.lenSl Tryd.underlying22 rfl) ?_
      refine X.opP X.wN rfl rfl (X.gtr rfl rfl) (fun h42 => ?_) (fun h42 => ?_)
      · refine X.opsEnd ?_
        refine X.condT rfl ?_
        refine X.region ?_
        refine X.opw X.wN rfl (X.fldB (j := 1) Tryd.underlying33 rfl rfl Tryd.sizeOf22 rfl) ?_
        refine X.opw X.wN rfl (X.load1B Tryd.isAgg22 hB4 rfl rfl) ?_
        refine X.opw X.wN rfl (X.cutHr Tryd.underlying22 Tryd.sizeOf5 rfl rfl (by omega)) ?_
        refine X.opw X.wN rfl (X.fldB (j := 1) Tryd.underlying33 rfl rfl Tryd.sizeOf22 rfl) ?_
        refine X.opE X.wN rfl (X.storeE Tryd.sizeOf22 hB4 rfl rfl rfl rfl) ?_
        rintro _ w5 ⟨hB5, hx5, hz5⟩
        refine X.opsEnd ?_
        refine X.seq ?_
        refine X.region ?_
        refine X.opw X.wN rfl (X.loadNB Tryd.isAgg33 Tryd.sizeOf33 hB5 rfl rfl rfl) ?_
        refine X.opE X.wN rfl (X.callE (Frame0 k _ (((hs2.take 300 (by omega)).keep ((hk3.step hx4 (by intros; (try simp only [] at *); omega)).step hx5 (by intros; (try simp only [] at *); omega)))) (by omega) (by omega) (by omega) (hT.keep ((((hk.trans hk2).trans hk3).step hx4 (by intros; (try simp only [] at *); omega)).step hx5 (by intros; (try simp only [] at *); omega)))) Tryd.call18 rfl rfl) ?_
        rintro _ w6 ⟨A6, c6, rfl, hc6, hs6, hk6⟩
        have hk6' := hk6.size
        refine X.opw X.wN rfl (X.move rfl) ?_
        refine X.opw X.wN rfl (X.extr rfl rfl) ?_
        refine X.opw X.wN rfl (X.extr rfl rfl) ?_
        refine X.opw X.wN rfl (X.assign (v := .slice _ _ _) rfl) ?_
        refine X.opw X.wN rfl (X.assign (v := .int .i64 _) rfl) ?_
        refine X.opsEnd ?_
        refine X.seq ?_
        refine X.region ?_
        refine X.opw X.wN rfl (X.move (v := .slice _ _ _) rfl) ?_
        refine X.opE X.wN rfl (X.callE (Unframe0 k _ hs6 (by rw [List.length_take]; omega) (by omega) (hT.keep (((((hk.trans hk2).trans hk3).step hx4 (by intros; (try simp only [] at *); omega)).step hx5 (by intros; (try simp only [] at *); omega)).trans hk6))) Tryd.call19 rfl rfl) ?_
        rintro _ w7 ⟨A7, c7, rfl, hc7, hs7, hk7⟩
        have hk7' := hk7.size
        refine X.opw X.wN rfl (X.move rfl) ?_
        refine X.opw X.wN rfl (X.extr rfl rfl) ?_
        refine X.opw X.wN rfl (X.extr rfl rfl) ?_
        refine X.opw X.wN rfl (X.extr rfl rfl) ?_
        refine X.opE X.wN rfl (X.allocE Tryd.zeroValue33 rfl) ?_
        rintro _ w8 ⟨rfl, hB8, hk8, hz8⟩
        refine X.opE X.wN rfl (X.storeNE Tryd.sizeOf33 hB8 rfl rfl rfl rfl (fun u hu => by simp at hu; rcases hu with rfl | rfl <;> rfl)) ?_
        rintro _ w9 ⟨hB9, hx9, hz9⟩
        refine X.opw X.wN rfl (X.assign (v := .int .i64 _) rfl) ?_
        refine X.opw X.wN rfl (X.assign (v := .int .i64 _) rfl) ?_
        refine X.opsEnd ?_
        refine X.seq ?_
        refine X.region ?_
        refine X.opw X.wN rfl (X.fldB (j := 1) Tryd.underlying33 rfl rfl Tryd.sizeOf22 rfl) ?_
        refine X.opw X.wN rfl (X.load1B Tryd.isAgg22 (hB5.keep (((hk6.trans hk7).trans hk8).step hx9 (by intros; (try simp only [] at *); omega))) rfl rfl) ?_
        refine X.opE X.wN rfl (X.callE ((Seal_c _ ((hs2.take 300 (by omega)).keep ((((((hk3.step hx4 (by intros; (try simp only [] at *); omega)).step hx5 (by intros; (try simp only [] at *); omega)).trans hk6).trans hk7).trans hk8).step hx9 (by intros; (try simp only [] at *); omega))) (by omega) (by omega) (by (try simp only [List.length_append, List.length_cons, List.length_nil, List.length_take, List.length_drop, List.length_map, List.length_range]); omega) (hT.keep ((((((((hk.trans hk2).trans hk3).step hx4 (by intros; (try simp only [] at *); omega)).step hx5 (by intros; (try simp only [] at *); omega)).trans hk6).trans hk7).trans hk8).step hx9 (by intros; (try simp only [] at *); omega)))).mono freshB) Tryd.call15 rfl rfl) ?_
        rintro _ w10 ⟨A10, c10, rfl, hc10, hs10, hM10, hk10⟩
        have hk10' := hk10.size
        refine X.opE X.wN rfl (X.callE (Open0 _ hs10 (by rw [List.length_take]; omega) (by omega) (hT.keep (((((((((hk.trans hk2).trans hk3).step hx4 (by intros; (try simp only [] at *); omega)).step hx5 (by intros; (try simp only [] at *); omega)).trans hk6).trans hk7).trans hk8).step hx9 (by intros; (try simp only [] at *); omega)).trans hk10))) Tryd.call11 rfl rfl) ?_
        rintro _ w11 ⟨A11, c11, rfl, hc11, hs11, hk11⟩
        have hk11' := hk11.size
        refine X.opw X.wN rfl (X.move rfl) ?_
        refine X.opw X.wN rfl (X.extr rfl rfl) ?_
        refine X.opw X.wN rfl (X.extr rfl rfl) ?_
        refine X.opw X.wN rfl (X.assign (v := .slice _ _ _) rfl) ?_
        refine X.opw X.wN rfl (X.assign (v := .int .i64 _) rfl) ?_
        refine X.opsEnd ?_
        refine X.seq ?_
        refine X.seq ?_
        refine X.region ?_
        refine X.opw X.wN rfl (X.move (v := .int .i64 _) rfl) ?_
        refine X.opP X.wN rfl rfl (X.neI rfl rfl) (fun h66 => ?_) (fun h66 => ?_)
        · exact absurd rfl h66
        · refine X.opw X.wN rfl (X.move (v := .bool false) rfl) ?_
          refine X.opw (X.wG rfl rfl rfl) rfl (X.move (v := .int .i64 _) rfl) ?_
          refine X.opP (X.wG rfl rfl rfl) rfl rfl (X.neI rfl rfl) (fun h69 => ?_) (fun h69 => ?_)
          · exact absurd rfl h69
          · refine X.opw X.wN rfl (X.pickF (v := .bool false) rfl rfl) ?_
            refine X.opw X.wN rfl (X.move (v := .bool false) rfl) ?_
            refine X.opw (X.wG rfl rfl rfl) rfl (X.move (v := .int .i64 _) rfl) ?_
            refine X.opP (X.wG rfl rfl rfl) rfl rfl (X.neI rfl rfl) (fun h73 => ?_) (fun h73 => ?_)
            · exact absurd rfl h73
            · refine X.opw X.wN rfl (X.pickF (v := .bool false) rfl rfl) ?_
              refine X.opw X.wN rfl (X.move (v := .bool false) rfl) ?_
              refine X.opw (X.wG rfl rfl rfl) rfl (X.move (v := .int .i64 _) rfl) ?_
              refine X.opw (X.wG rfl rfl rfl) rfl (X.move (v := .slice _ _ _) rfl) ?_
              refine X.opw (X.wG rfl rfl rfl) rfl (X.lenSl Tryd.underlying22 rfl) ?_
              refine X.opP (X.wG rfl rfl rfl) rfl rfl (X.neI rfl rfl) (fun h79 => ?_) (fun h79 => ?_)
              · exact absurd rfl h79
              · refine X.opw X.wN rfl (X.pickF (v := .bool false) rfl rfl) ?_
                refine X.opw X.wN rfl (X.move (v := .bool false) rfl) ?_
                refine X.opw (X.wG rfl rfl rfl) rfl (X.move (v := .slice _ _ _) rfl) ?_
                refine X.opw (X.wG rfl rfl rfl) rfl (X.str Tryd.underlying22 Tryd.underlying5 Tryd.underlying9 rfl KB_is rfl hs11) ?_
                refine X.opw (X.wG rfl rfl rfl) rfl (X.fldB (j := 1) Tryd.underlying33 rfl rfl Tryd.sizeOf22 rfl) ?_
                refine X.opw (X.wG rfl rfl rfl) rfl (X.load1B Tryd.isAgg22 (hB5.keep (((((hk6.trans hk7).trans hk8).step hx9 (by intros; (try simp only [] at *); omega)).trans hk10).trans hk11)) rfl rfl) ?_
                refine X.opw (X.wG rfl rfl rfl) rfl (X.str Tryd.underlying22 Tryd.underlying5 Tryd.underlying9 rfl KB_is rfl ((hs2.take 300 (by omega)).keep ((((((((hk3.step hx4 (by intros; (try simp only [] at *); omega)).step hx5 (by intros; (try simp only [] at *); omega)).trans hk6).trans hk7).trans hk8).step hx9 (by intros; (try simp only [] at *); omega)).trans hk10).trans hk11))) ?_
                refine X.opP (X.wG rfl rfl rfl) rfl rfl (X.neD rfl rfl) (fun h87 => ?_) (fun h87 => ?_)
                · exact absurd rfl h87
                · refine X.opw X.wN rfl (X.pickF (v := .bool false) rfl rfl) ?_
                  refine X.opw X.wN rfl (X.move (v := .bool false) rfl) ?_
                  refine X.opw (X.wG rfl rfl rfl) rfl (X.loadNB Tryd.isAgg33 Tryd.sizeOf33 (hB9.keep (hk10.trans hk11)) rfl rfl rfl) ?_
                  refine X.opE (X.wG rfl rfl rfl) rfl (X.litKF KP2_flat (K := KP2) (xs := [Operand.tmp 90]) (vs := [.agg #[.int .u8 (k.toNat : Int), .slice A7 ((l.take 3000).take 300).length c7]]) (ys := [.agg #[.int .u8 (k.toNat : Int), .slice A7 ((l.take 3000).take 300).length c7]]) Tryd.underlying51 Tryd.sizeOf33 Tryd.zeroValue33 rfl rfl rfl rfl rfl (reps1 rfl rfl)) ?_
                  rintro _ w12 ⟨rfl, hs12, hB12, hk12, hz12⟩
                  refine X.opw (X.wG rfl rfl rfl) rfl (X.loadNB Tryd.isAgg33 Tryd.sizeOf33 (hB5.keep ((((((hk6.trans hk7).trans hk8).step hx9 (by intros; (try simp only [] at *); omega)).trans hk10).trans hk11).trans hk12)) rfl rfl rfl) ?_
                  refine X.opE (X.wG rfl rfl rfl) rfl (X.litKF KP2_flat (K := KP2) (xs := [Operand.tmp 92]) (vs := [.agg #[.int .u8 (k.toNat : Int), .slice A 300 c]]) (ys := [.agg #[.int .u8 (k.toNat : Int), .slice A 300 c]]) Tryd.underlying51 Tryd.sizeOf33 Tryd.zeroValue33 rfl rfl rfl rfl rfl (reps1 rfl rfl)) ?_
                  rintro _ w13 ⟨rfl, hs13, hB13, hk13, hz13⟩
                  refine X.opE (X.wG rfl rfl rfl) rfl (X.callE (Same_c _ (hs12.keep hk13) hs13 (show PData (fun _ => True) _ _ [(k, ((l.take 3000).take 300))] from ⟨⟨_, _, _, _, _, rfl, hc7, fun _ _ _ => trivial, (hs7.keep (((((hk8.step hx9 (by intros; (try simp only [] at *); omega)).trans hk10).trans hk11).trans hk12).trans hk13))⟩, trivial⟩) (show PData (fun _ => True) _ _ [(k, ((l.take 3000).take 300))] from ⟨⟨_, _, _, _, _, rfl, (by omega), fun _ _ _ => trivial, ((hs2.take 300 (by omega)).keep ((((((((((hk3.step hx4 (by intros; (try simp only [] at *); omega)).step hx5 (by intros; (try simp only [] at *); omega)).trans hk6).trans hk7).trans hk8).step hx9 (by intros; (try simp only [] at *); omega)).trans hk10).trans hk11).trans hk12).trans hk13))⟩, trivial⟩)) Tryd.call30 rfl rfl) ?_
                  rintro _ w14 ⟨rfl, hk14⟩
                  have hk14' := hk14.size
                  refine X.opw (X.wG rfl rfl rfl) rfl (X.not_ rfl) ?_
                  refine X.opw X.wN rfl (X.pickF (v := .bool _) rfl rfl) ?_
                  refine X.opsEnd ?_
                  refine X.condB rfl (fun hc => ?_) (fun hc => ?_)
                  · simp at hc
                  · refine X.skip ?_
                    refine X.seq ?_
                    refine X.regionD (fun k => w.heap.size ≤ k ∧ k < wl.heap.size) 8 (by kernel_rfl) (by kernel_rfl) (fun w15 hk15 hz15 => ?_)
                    refine X.dTake 0 rfl (by kernel_rfl) (by kernel_rfl) (by kernel_rfl) (X.dwN rfl) (fun w' hk' => X.move (v := .slice _ _ _) rfl) ?_
                    refine X.dTake 1 rfl (by kernel_rfl) (by kernel_rfl) (by kernel_rfl) (X.dwN rfl) (fun w' hk' => X.move (v := .slice _ _ _) rfl) ?_
                    refine X.dTake 3 rfl (by kernel_rfl) (by kernel_rfl) (by kernel_rfl) (X.dwN rfl) (fun w' hk' => X.move (v := .slice _ _ _) rfl) ?_
                    refine X.dTake 4 rfl (by kernel_rfl) (by kernel_rfl) (by kernel_rfl) (X.dwN rfl) (fun w' hk' => X.loadNB Tryd.isAgg33 Tryd.sizeOf33 ((hB5.keep (((((((((hk6.trans hk7).trans hk8).step hx9 (by intros; (try simp only [] at *); omega)).trans hk10).trans hk11).trans hk12).trans hk13).trans hk14).trans hk15)).ext hk' (by intros; (try simp only []); omega)) rfl rfl rfl) ?_
                    refine X.dTwo (i := 2) (j := 5) (by kernel_rfl) ?_ ?_
                    · refine X.d1E (i := 2) rfl (X.dwN rfl) (X.BK3.appA (hQ.keep (((((((((((((hk2.trans hk3).step hx4 (by intros; (try simp only [] at *); omega)).step hx5 (by intros; (try simp only [] at *); omega)).trans hk6).trans hk7).trans hk8).step hx9 (by intros; (try simp only [] at *); omega)).trans hk10).trans hk11).trans hk12).trans hk13).trans hk14).trans hk15)) (hs6.keep ((((((((hk7.trans hk8).step hx9 (by intros; (try simp only [] at *); omega)).trans hk10).trans hk11).trans hk12).trans hk13).trans hk14).trans hk15)) Tryd.underlying22 E8 rfl rfl (by rw [FC_len]; have : ((l.take 3000).take 300).length ≤ 300 := (by rw [List.length_take]; omega); omega)) (by rintro _ w16 ⟨A16, c16, Z16, rfl, hQ16, hx16⟩ _; exact hx16.mono (fun k _ h => by (try simp only [] at *); omega)) ?_
                      rintro _ w16 ⟨A16, c16, Z16, rfl, hQ16, hx16⟩
                      have hx16' := hx16.size
                      refine X.dE (i := 5) (by kernel_rfl) rfl (X.dwN rfl) (X.litKF KP2_flat (K := KP2) (xs := [Operand.tmp 101]) (vs := [.agg #[.int .u8 (k.toNat : Int), .slice A 300 c]]) (ys := [.agg #[.int .u8 (k.toNat : Int), .slice A 300 c]]) Tryd.underlying51 Tryd.sizeOf33 Tryd.zeroValue33 rfl rfl rfl rfl rfl (reps1 rfl rfl)) (by rintro _ w17 ⟨rfl, hs17, hB17, hk17, hz17⟩ _; exact hk17.mono (fun _ _ h => h.elim)) ?_
                      rintro _ w17 ⟨rfl, hs17, hB17, hk17, hz17⟩
                      refine X.dE (i := 6) (by kernel_rfl) rfl (X.dwN rfl) (X.BK3.appP (hQ16.keep hk17) hs17 (by omega) (Nat.le_refl _) ((((hs2.take 300 (by omega)).keep ((((((((((((hk3.step hx4 (by intros; (try simp only [] at *); omega)).step hx5 (by intros; (try simp only [] at *); omega)).trans hk6).trans hk7).trans hk8).step hx9 (by intros; (try simp only [] at *); omega)).trans hk10).trans hk11).trans hk12).trans hk13).trans hk14).trans hk15)).ext hx16 (by intros; (try simp only []); omega)).keep hk17) Tryd.underlying51 EP rfl rfl (by omega)) (by rintro _ w18 ⟨A18, c18, Z18, rfl, hQ18, hx18⟩ _; exact hx18.mono (fun k _ h => by (try simp only [] at *); omega)) ?_
                      rintro _ w18 ⟨A18, c18, Z18, rfl, hQ18, hx18⟩
                      have hx18' := hx18.size
                      refine X.dTake 7 rfl (by kernel_rfl) (by kernel_rfl) (by kernel_rfl) (X.dwN rfl) (fun w' hk' => X.assign rfl) ?_
                      refine X.dStep (i := 8) (by kernel_rfl) rfl (X.dwN rfl) (X.assign rfl) (fun h => absurd h (by decide)) ?_
                      refine X.dEnd (by kernel_rfl) ?_
                      refine X.region ?_
                      refine X.opw X.wN rfl (X.move (v := .slice _ _ _) rfl) ?_
                      refine X.opw X.wN rfl (X.move rfl) ?_
                      refine X.opw X.wN rfl (X.lenSl Tryd.underlying22 rfl) ?_
                      refine X.opE X.wN rfl (X.litKF KNt_flat (K := KNt) (xs := [Operand.tmp 106]) (vs := [.int .i64 (((flatC ps ++ FC k ((l.take 3000).take 300)).length : Nat) : Int)]) (ys := [(flatC ps ++ FC k ((l.take 3000).take 300)).length]) Tryd.underlying56 Tryd.sizeOf3 Tryd.zeroValue3 rfl rfl rfl rfl rfl (repsNt _)) ?_
                      rintro _ w19 ⟨rfl, hs19, hB19, hk19, hz19⟩
                      refine X.opE X.wN rfl (X.BK3.appN (hQ18.keep hk19) hs19 Tryd.underlying56 EI rfl rfl (by rw [List.length_singleton]; omega)) ?_
                      rintro _ w20 ⟨A20, c20, Z20, rfl, hQ20, hx20⟩
                      have hx20' := hx20.size
                      refine X.opw X.wN rfl (X.assign rfl) ?_
                      refine X.opsEnd ?_
                      refine X.inBlock ?_
                      refine X.region ?_
                      refine X.opw X.wN rfl (X.move (v := .int .i64 _) rfl) ?_
                      refine X.opw X.wN rfl (X.add rfl rfl (X.w_i64 (by omega))) ?_
                      refine X.opw X.wN rfl (X.assign (v := .int .i64 _) rfl) ?_
                      refine X.opsEnd ?_
                      refine hback (i + 1, _, _, _, ps ++ [(k, ((l.take 3000).take 300))], Z16, Z20, Z18) _ _ ⟨rfl, rfl, rfl, rfl, rfl, rfl, trivial⟩ ⟨by dsimp only; omega, by dsimp only; omega, by dsimp only; rw [List.length_append, hpl]; rfl, small_snoc hsm (show ((l.take 3000).take 300).length ≤ 300 from (by rw [List.length_take]; omega)), by dsimp only; rw [endsC_snoc, flatC_snoc]; exact (hQ20).all, (((((((((((((((((((hk.trans hk2).trans hk3).step hx4 (by intros; (try simp only [] at *); omega)).step hx5 (by intros; (try simp only [] at *); omega)).trans hk6).trans hk7).trans hk8).step hx9 (by intros; (try simp only [] at *); omega)).trans hk10).trans hk11).trans hk12).trans hk13).trans hk14).trans hk15).step hx16 (by intros; (try simp only [] at *); omega)).trans hk17).step hx18 (by intros; (try simp only [] at *); omega)).trans hk19).step hx20 (by intros; (try simp only [] at *); omega))⟩ (by dsimp only; omega)
                    · refine X.d1E (i := 5) rfl (X.dwN rfl) (X.litKF KP2_flat (K := KP2) (xs := [Operand.tmp 101]) (vs := [.agg #[.int .u8 (k.toNat : Int), .slice A 300 c]]) (ys := [.agg #[.int .u8 (k.toNat : Int), .slice A 300 c]]) Tryd.underlying51 Tryd.sizeOf33 Tryd.zeroValue33 rfl rfl rfl rfl rfl (reps1 rfl rfl)) (by rintro _ w21 ⟨rfl, hs21, hB21, hk21, hz21⟩ _; exact hk21.mono (fun _ _ h => h.elim)) ?_
                      rintro _ w21 ⟨rfl, hs21, hB21, hk21, hz21⟩
                      refine X.dE (i := 2) (by kernel_rfl) rfl (X.dwN rfl) (X.BK3.appA (hQ.keep ((((((((((((((hk2.trans hk3).step hx4 (by intros; (try simp only [] at *); omega)).step hx5 (by intros; (try simp only [] at *); omega)).trans hk6).trans hk7).trans hk8).step hx9 (by intros; (try simp only [] at *); omega)).trans hk10).trans hk11).trans hk12).trans hk13).trans hk14).trans hk15).trans hk21)) (hs6.keep (((((((((hk7.trans hk8).step hx9 (by intros; (try simp only [] at *); omega)).trans hk10).trans hk11).trans hk12).trans hk13).trans hk14).trans hk15).trans hk21)) Tryd.underlying22 E8 rfl rfl (by rw [FC_len]; have : ((l.take 3000).take 300).length ≤ 300 := (by rw [List.length_take]; omega); omega)) (by rintro _ w22 ⟨A22, c22, Z22, rfl, hQ22, hx22⟩ _; exact hx22.mono (fun k _ h => by (try simp only [] at *); omega)) ?_
                      rintro _ w22 ⟨A22, c22, Z22, rfl, hQ22, hx22⟩
                      have hx22' := hx22.size
                      refine X.dE (i := 6) (by kernel_rfl) rfl (X.dwN rfl) (X.BK3.appP hQ22 (hs21.ext hx22 (by intros; (try simp only []); omega)) (by omega) (Nat.le_refl _) (((hs2.take 300 (by omega)).keep (((((((((((((hk3.step hx4 (by intros; (try simp only [] at *); omega)).step hx5 (by intros; (try simp only [] at *); omega)).trans hk6).trans hk7).trans hk8).step hx9 (by intros; (try simp only [] at *); omega)).trans hk10).trans hk11).trans hk12).trans hk13).trans hk14).trans hk15).trans hk21)).ext hx22 (by intros; (try simp only []); omega)) Tryd.underlying51 EP rfl rfl (by omega)) (by rintro _ w23 ⟨A23, c23, Z23, rfl, hQ23, hx23⟩ _; exact hx23.mono (fun k _ h => by (try simp only [] at *); omega)) ?_
                      rintro _ w23 ⟨A23, c23, Z23, rfl, hQ23, hx23⟩
                      have hx23' := hx23.size
                      refine X.dTake 7 rfl (by kernel_rfl) (by kernel_rfl) (by kernel_rfl) (X.dwN rfl) (fun w' hk' => X.assign rfl) ?_
                      refine X.dStep (i := 8) (by kernel_rfl) rfl (X.dwN rfl) (X.assign rfl) (fun h => absurd h (by decide)) ?_
                      refine X.dEnd (by kernel_rfl) ?_
                      refine X.region ?_
                      refine X.opw X.wN rfl (X.move (v := .slice _ _ _) rfl) ?_
                      refine X.opw X.wN rfl (X.move rfl) ?_
                      refine X.opw X.wN rfl (X.lenSl Tryd.underlying22 rfl) ?_
                      refine X.opE X.wN rfl (X.litKF KNt_flat (K := KNt) (xs := [Operand.tmp 106]) (vs := [.int .i64 (((flatC ps ++ FC k ((l.take 3000).take 300)).length : Nat) : Int)]) (ys := [(flatC ps ++ FC k ((l.take 3000).take 300)).length]) Tryd.underlying56 Tryd.sizeOf3 Tryd.zeroValue3 rfl rfl rfl rfl rfl (repsNt _)) ?_
                      rintro _ w24 ⟨rfl, hs24, hB24, hk24, hz24⟩
                      refine X.opE X.wN rfl (X.BK3.appN (hQ23.keep hk24) hs24 Tryd.underlying56 EI rfl rfl (by rw [List.length_singleton]; omega)) ?_
                      rintro _ w25 ⟨A25, c25, Z25, rfl, hQ25, hx25⟩
                      have hx25' := hx25.size
                      refine X.opw X.wN rfl (X.assign rfl) ?_
                      refine X.opsEnd ?_
                      refine X.inBlock ?_
                      refine X.region ?_
                      refine X.opw X.wN rfl (X.move (v := .int .i64 _) rfl) ?_
                      refine X.opw X.wN rfl (X.add rfl rfl (X.w_i64 (by omega))) ?_
                      refine X.opw X.wN rfl (X.assign (v := .int .i64 _) rfl) ?_
                      refine X.opsEnd ?_
                      refine hback (i + 1, _, _, _, ps ++ [(k, ((l.take 3000).take 300))], Z22, Z25, Z23) _ _ ⟨rfl, rfl, rfl, rfl, rfl, rfl, trivial⟩ ⟨by dsimp only; omega, by dsimp only; omega, by dsimp only; rw [List.length_append, hpl]; rfl, small_snoc hsm (show ((l.take 3000).take 300).length ≤ 300 from (by rw [List.length_take]; omega)), by dsimp only; rw [endsC_snoc, flatC_snoc]; exact (hQ25).all, (((((((((((((((((((hk.trans hk2).trans hk3).step hx4 (by intros; (try simp only [] at *); omega)).step hx5 (by intros; (try simp only [] at *); omega)).trans hk6).trans hk7).trans hk8).step hx9 (by intros; (try simp only [] at *); omega)).trans hk10).trans hk11).trans hk12).trans hk13).trans hk14).trans hk15).trans hk21).step hx22 (by intros; (try simp only [] at *); omega)).step hx23 (by intros; (try simp only [] at *); omega)).trans hk24).step hx25 (by intros; (try simp only [] at *); omega))⟩ (by dsimp only; omega)
      · refine X.opsEnd ?_
        refine X.condF rfl ?_
        refine X.skip ?_
        refine X.seq ?_
        refine X.region ?_
        refine X.opw X.wN rfl (X.loadNB Tryd.isAgg33 Tryd.sizeOf33 hB4 rfl rfl rfl) ?_
        refine X.opE X.wN rfl (X.callE (Frame0 k _ ((hs2.keep (hk3.step hx4 (by intros; (try simp only [] at *); omega)))) (by omega) (by omega) (by omega) (hT.keep (((hk.trans hk2).trans hk3).step hx4 (by intros; (try simp only [] at *); omega)))) Tryd.call18 rfl rfl) ?_
        rintro _ w26 ⟨A26, c26, rfl, hc26, hs26, hk26⟩
        have hk26' := hk26.size
        refine X.opw X.wN rfl (X.move rfl) ?_
        refine X.opw X.wN rfl (X.extr rfl rfl) ?_
        refine X.opw X.wN rfl (X.extr rfl rfl) ?_
        refine X.opw X.wN rfl (X.assign (v := .slice _ _ _) rfl) ?_
        refine X.opw X.wN rfl (X.assign (v := .int .i64 _) rfl) ?_
        refine X.opsEnd ?_
        refine X.seq ?_
        refine X.region ?_
        refine X.opw X.wN rfl (X.move (v := .slice _ _ _) rfl) ?_
        refine X.opE X.wN rfl (X.callE (Unframe0 k _ hs26 (by have := hs2.len; omega) (by omega) (hT.keep ((((hk.trans hk2).trans hk3).step hx4 (by intros; (try simp only [] at *); omega)).trans hk26))) Tryd.call19 rfl rfl) ?_
        rintro _ w27 ⟨A27, c27, rfl, hc27, hs27, hk27⟩
        have hk27' := hk27.size
        refine X.opw X.wN rfl (X.move rfl) ?_
        refine X.opw X.wN rfl (X.extr rfl rfl) ?_
        refine X.opw X.wN rfl (X.extr rfl rfl) ?_
        refine X.opw X.wN rfl (X.extr rfl rfl) ?_
        refine X.opE X.wN rfl (X.allocE Tryd.zeroValue33 rfl) ?_
        rintro _ w28 ⟨rfl, hB28, hk28, hz28⟩
        refine X.opE X.wN rfl (X.storeNE Tryd.sizeOf33 hB28 rfl rfl rfl rfl (fun u hu => by simp at hu; rcases hu with rfl | rfl <;> rfl)) ?_
        rintro _ w29 ⟨hB29, hx29, hz29⟩
        refine X.opw X.wN rfl (X.assign (v := .int .i64 _) rfl) ?_
        refine X.opw X.wN rfl (X.assign (v := .int .i64 _) rfl) ?_
        refine X.opsEnd ?_
        refine X.seq ?_
        refine X.region ?_
        refine X.opw X.wN rfl (X.fldB (j := 1) Tryd.underlying33 rfl rfl Tryd.sizeOf22 rfl) ?_
        refine X.opw X.wN rfl (X.load1B Tryd.isAgg22 (hB4.keep (((hk26.trans hk27).trans hk28).step hx29 (by intros; (try simp only [] at *); omega))) rfl rfl) ?_
        refine X.opE X.wN rfl (X.callE ((Seal_c _ (hs2.keep (((((hk3.step hx4 (by intros; (try simp only [] at *); omega)).trans hk26).trans hk27).trans hk28).step hx29 (by intros; (try simp only [] at *); omega))) (by omega) (by omega) (by (try simp only [List.length_append, List.length_cons, List.length_nil, List.length_take, List.length_drop, List.length_map, List.length_range]); omega) (hT.keep (((((((hk.trans hk2).trans hk3).step hx4 (by intros; (try simp only [] at *); omega)).trans hk26).trans hk27).trans hk28).step hx29 (by intros; (try simp only [] at *); omega)))).mono freshB) Tryd.call15 rfl rfl) ?_
        rintro _ w30 ⟨A30, c30, rfl, hc30, hs30, hM30, hk30⟩
        have hk30' := hk30.size
        refine X.opE X.wN rfl (X.callE (Open0 _ hs30 (by have := hs2.len; omega) (by omega) (hT.keep ((((((((hk.trans hk2).trans hk3).step hx4 (by intros; (try simp only [] at *); omega)).trans hk26).trans hk27).trans hk28).step hx29 (by intros; (try simp only [] at *); omega)).trans hk30))) Tryd.call11 rfl rfl) ?_
        rintro _ w31 ⟨A31, c31, rfl, hc31, hs31, hk31⟩
        have hk31' := hk31.size
        refine X.opw X.wN rfl (X.move rfl) ?_
        refine X.opw X.wN rfl (X.extr rfl rfl) ?_
        refine X.opw X.wN rfl (X.extr rfl rfl) ?_
        refine X.opw X.wN rfl (X.assign (v := .slice _ _ _) rfl) ?_
        refine X.opw X.wN rfl (X.assign (v := .int .i64 _) rfl) ?_
        refine X.opsEnd ?_
        refine X.seq ?_
        refine X.seq ?_
        refine X.region ?_
        refine X.opw X.wN rfl (X.move (v := .int .i64 _) rfl) ?_
        refine X.opP X.wN rfl rfl (X.neI rfl rfl) (fun h66 => ?_) (fun h66 => ?_)
        · exact absurd rfl h66
        · refine X.opw X.wN rfl (X.move (v := .bool false) rfl) ?_
          refine X.opw (X.wG rfl rfl rfl) rfl (X.move (v := .int .i64 _) rfl) ?_
          refine X.opP (X.wG rfl rfl rfl) rfl rfl (X.neI rfl rfl) (fun h69 => ?_) (fun h69 => ?_)
          · exact absurd rfl h69
          · refine X.opw X.wN rfl (X.pickF (v := .bool false) rfl rfl) ?_
            refine X.opw X.wN rfl (X.move (v := .bool false) rfl) ?_
            refine X.opw (X.wG rfl rfl rfl) rfl (X.move (v := .int .i64 _) rfl) ?_
            refine X.opP (X.wG rfl rfl rfl) rfl rfl (X.neI rfl rfl) (fun h73 => ?_) (fun h73 => ?_)
            · exact absurd rfl h73
            · refine X.opw X.wN rfl (X.pickF (v := .bool false) rfl rfl) ?_
              refine X.opw X.wN rfl (X.move (v := .bool false) rfl) ?_
              refine X.opw (X.wG rfl rfl rfl) rfl (X.move (v := .int .i64 _) rfl) ?_
              refine X.opw (X.wG rfl rfl rfl) rfl (X.move (v := .slice _ _ _) rfl) ?_
              refine X.opw (X.wG rfl rfl rfl) rfl (X.lenSl Tryd.underlying22 rfl) ?_
              refine X.opP (X.wG rfl rfl rfl) rfl rfl (X.neI rfl rfl) (fun h79 => ?_) (fun h79 => ?_)
              · exact absurd rfl h79
              · refine X.opw X.wN rfl (X.pickF (v := .bool false) rfl rfl) ?_
                refine X.opw X.wN rfl (X.move (v := .bool false) rfl) ?_
                refine X.opw (X.wG rfl rfl rfl) rfl (X.move (v := .slice _ _ _) rfl) ?_
                refine X.opw (X.wG rfl rfl rfl) rfl (X.str Tryd.underlying22 Tryd.underlying5 Tryd.underlying9 rfl KB_is rfl hs31) ?_
                refine X.opw (X.wG rfl rfl rfl) rfl (X.fldB (j := 1) Tryd.underlying33 rfl rfl Tryd.sizeOf22 rfl) ?_
                refine X.opw (X.wG rfl rfl rfl) rfl (X.load1B Tryd.isAgg22 (hB4.keep (((((hk26.trans hk27).trans hk28).step hx29 (by intros; (try simp only [] at *); omega)).trans hk30).trans hk31)) rfl rfl) ?_
                refine X.opw (X.wG rfl rfl rfl) rfl (X.str Tryd.underlying22 Tryd.underlying5 Tryd.underlying9 rfl KB_is rfl (hs2.keep (((((((hk3.step hx4 (by intros; (try simp only [] at *); omega)).trans hk26).trans hk27).trans hk28).step hx29 (by intros; (try simp only [] at *); omega)).trans hk30).trans hk31))) ?_
                refine X.opP (X.wG rfl rfl rfl) rfl rfl (X.neD rfl rfl) (fun h87 => ?_) (fun h87 => ?_)
                · exact absurd rfl h87
                · refine X.opw X.wN rfl (X.pickF (v := .bool false) rfl rfl) ?_
                  refine X.opw X.wN rfl (X.move (v := .bool false) rfl) ?_
                  refine X.opw (X.wG rfl rfl rfl) rfl (X.loadNB Tryd.isAgg33 Tryd.sizeOf33 (hB29.keep (hk30.trans hk31)) rfl rfl rfl) ?_
                  refine X.opE (X.wG rfl rfl rfl) rfl (X.litKF KP2_flat (K := KP2) (xs := [Operand.tmp 90]) (vs := [.agg #[.int .u8 (k.toNat : Int), .slice A27 (l.take 3000).length c27]]) (ys := [.agg #[.int .u8 (k.toNat : Int), .slice A27 (l.take 3000).length c27]]) Tryd.underlying51 Tryd.sizeOf33 Tryd.zeroValue33 rfl rfl rfl rfl rfl (reps1 rfl rfl)) ?_
                  rintro _ w32 ⟨rfl, hs32, hB32, hk32, hz32⟩
                  refine X.opw (X.wG rfl rfl rfl) rfl (X.loadNB Tryd.isAgg33 Tryd.sizeOf33 (hB4.keep ((((((hk26.trans hk27).trans hk28).step hx29 (by intros; (try simp only [] at *); omega)).trans hk30).trans hk31).trans hk32)) rfl rfl rfl) ?_
                  refine X.opE (X.wG rfl rfl rfl) rfl (X.litKF KP2_flat (K := KP2) (xs := [Operand.tmp 92]) (vs := [.agg #[.int .u8 (k.toNat : Int), .slice A m2 c]]) (ys := [.agg #[.int .u8 (k.toNat : Int), .slice A m2 c]]) Tryd.underlying51 Tryd.sizeOf33 Tryd.zeroValue33 rfl rfl rfl rfl rfl (reps1 rfl rfl)) ?_
                  rintro _ w33 ⟨rfl, hs33, hB33, hk33, hz33⟩
                  refine X.opE (X.wG rfl rfl rfl) rfl (X.callE (Same_c _ (hs32.keep hk33) hs33 (show PData (fun _ => True) _ _ [(k, (l.take 3000))] from ⟨⟨_, _, _, _, _, rfl, hc27, fun _ _ _ => trivial, (hs27.keep (((((hk28.step hx29 (by intros; (try simp only [] at *); omega)).trans hk30).trans hk31).trans hk32).trans hk33))⟩, trivial⟩) (show PData (fun _ => True) _ _ [(k, (l.take 3000))] from ⟨⟨_, _, _, _, _, rfl, (by omega), fun _ _ _ => trivial, (hs2.keep (((((((((hk3.step hx4 (by intros; (try simp only [] at *); omega)).trans hk26).trans hk27).trans hk28).step hx29 (by intros; (try simp only [] at *); omega)).trans hk30).trans hk31).trans hk32).trans hk33))⟩, trivial⟩)) Tryd.call30 rfl rfl) ?_
                  rintro _ w34 ⟨rfl, hk34⟩
                  have hk34' := hk34.size
                  refine X.opw (X.wG rfl rfl rfl) rfl (X.not_ rfl) ?_
                  refine X.opw X.wN rfl (X.pickF (v := .bool _) rfl rfl) ?_
                  refine X.opsEnd ?_
                  refine X.condB rfl (fun hc => ?_) (fun hc => ?_)
                  · simp at hc
                  · refine X.skip ?_
                    refine X.seq ?_
                    refine X.regionD (fun k => w.heap.size ≤ k ∧ k < wl.heap.size) 8 (by kernel_rfl) (by kernel_rfl) (fun w35 hk35 hz35 => ?_)
                    refine X.dTake 0 rfl (by kernel_rfl) (by kernel_rfl) (by kernel_rfl) (X.dwN rfl) (fun w' hk' => X.move (v := .slice _ _ _) rfl) ?_
                    refine X.dTake 1 rfl (by kernel_rfl) (by kernel_rfl) (by kernel_rfl) (X.dwN rfl) (fun w' hk' => X.move (v := .slice _ _ _) rfl) ?_
                    refine X.dTake 3 rfl (by kernel_rfl) (by kernel_rfl) (by kernel_rfl) (X.dwN rfl) (fun w' hk' => X.move (v := .slice _ _ _) rfl) ?_
                    refine X.dTake 4 rfl (by kernel_rfl) (by kernel_rfl) (by kernel_rfl) (X.dwN rfl) (fun w' hk' => X.loadNB Tryd.isAgg33 Tryd.sizeOf33 ((hB4.keep (((((((((hk26.trans hk27).trans hk28).step hx29 (by intros; (try simp only [] at *); omega)).trans hk30).trans hk31).trans hk32).trans hk33).trans hk34).trans hk35)).ext hk' (by intros; (try simp only []); omega)) rfl rfl rfl) ?_
                    refine X.dTwo (i := 2) (j := 5) (by kernel_rfl) ?_ ?_
                    · refine X.d1E (i := 2) rfl (X.dwN rfl) (X.BK3.appA (hQ.keep ((((((((((((hk2.trans hk3).step hx4 (by intros; (try simp only [] at *); omega)).trans hk26).trans hk27).trans hk28).step hx29 (by intros; (try simp only [] at *); omega)).trans hk30).trans hk31).trans hk32).trans hk33).trans hk34).trans hk35)) (hs26.keep ((((((((hk27.trans hk28).step hx29 (by intros; (try simp only [] at *); omega)).trans hk30).trans hk31).trans hk32).trans hk33).trans hk34).trans hk35)) Tryd.underlying22 E8 rfl rfl (by rw [FC_len]; have : (l.take 3000).length ≤ 300 := (by have := hs2.len; omega); omega)) (by rintro _ w36 ⟨A36, c36, Z36, rfl, hQ36, hx36⟩ _; exact hx36.mono (fun k _ h => by (try simp only [] at *); omega)) ?_
                      rintro _ w36 ⟨A36, c36, Z36, rfl, hQ36, hx36⟩
                      have hx36' := hx36.size
                      refine X.dE (i := 5) (by kernel_rfl) rfl (X.dwN rfl) (X.litKF KP2_flat (K := KP2) (xs := [Operand.tmp 101]) (vs := [.agg #[.int .u8 (k.toNat : Int), .slice A m2 c]]) (ys := [.agg #[.int .u8 (k.toNat : Int), .slice A m2 c]]) Tryd.underlying51 Tryd.sizeOf33 Tryd.zeroValue33 rfl rfl rfl rfl rfl (reps1 rfl rfl)) (by rintro _ w37 ⟨rfl, hs37, hB37, hk37, hz37⟩ _; exact hk37.mono (fun _ _ h => h.elim)) ?_
                      rintro _ w37 ⟨rfl, hs37, hB37, hk37, hz37⟩
                      refine X.dE (i := 6) (by kernel_rfl) rfl (X.dwN rfl) (X.BK3.appP (hQ36.keep hk37) hs37 (by omega) (Nat.le_refl _) (((hs2.keep (((((((((((hk3.step hx4 (by intros; (try simp only [] at *); omega)).trans hk26).trans hk27).trans hk28).step hx29 (by intros; (try simp only [] at *); omega)).trans hk30).trans hk31).trans hk32).trans hk33).trans hk34).trans hk35)).ext hx36 (by intros; (try simp only []); omega)).keep hk37) Tryd.underlying51 EP rfl rfl (by omega)) (by rintro _ w38 ⟨A38, c38, Z38, rfl, hQ38, hx38⟩ _; exact hx38.mono (fun k _ h => by (try simp only [] at *); omega)) ?_
                      rintro _ w38 ⟨A38, c38, Z38, rfl, hQ38, hx38⟩
                      have hx38' := hx38.size
                      refine X.dTake 7 rfl (by kernel_rfl) (by kernel_rfl) (by kernel_rfl) (X.dwN rfl) (fun w' hk' => X.assign rfl) ?_
                      refine X.dStep (i := 8) (by kernel_rfl) rfl (X.dwN rfl) (X.assign rfl) (fun h => absurd h (by decide)) ?_
                      refine X.dEnd (by kernel_rfl) ?_
                      refine X.region ?_
                      refine X.opw X.wN rfl (X.move (v := .slice _ _ _) rfl) ?_
                      refine X.opw X.wN rfl (X.move rfl) ?_
                      refine X.opw X.wN rfl (X.lenSl Tryd.underlying22 rfl) ?_
                      refine X.opE X.wN rfl (X.litKF KNt_flat (K := KNt) (xs := [Operand.tmp 106]) (vs := [.int .i64 (((flatC ps ++ FC k (l.take 3000)).length : Nat) : Int)]) (ys := [(flatC ps ++ FC k (l.take 3000)).length]) Tryd.underlying56 Tryd.sizeOf3 Tryd.zeroValue3 rfl rfl rfl rfl rfl (repsNt _)) ?_
                      rintro _ w39 ⟨rfl, hs39, hB39, hk39, hz39⟩
                      refine X.opE X.wN rfl (X.BK3.appN (hQ38.keep hk39) hs39 Tryd.underlying56 EI rfl rfl (by rw [List.length_singleton]; omega)) ?_
                      rintro _ w40 ⟨A40, c40, Z40, rfl, hQ40, hx40⟩
                      have hx40' := hx40.size
                      refine X.opw X.wN rfl (X.assign rfl) ?_
                      refine X.opsEnd ?_
                      refine X.inBlock ?_
                      refine X.region ?_
                      refine X.opw X.wN rfl (X.move (v := .int .i64 _) rfl) ?_
                      refine X.opw X.wN rfl (X.add rfl rfl (X.w_i64 (by omega))) ?_
                      refine X.opw X.wN rfl (X.assign (v := .int .i64 _) rfl) ?_
                      refine X.opsEnd ?_
                      refine hback (i + 1, _, _, _, ps ++ [(k, (l.take 3000))], Z36, Z40, Z38) _ _ ⟨rfl, rfl, rfl, rfl, rfl, rfl, trivial⟩ ⟨by dsimp only; omega, by dsimp only; omega, by dsimp only; rw [List.length_append, hpl]; rfl, small_snoc hsm (show (l.take 3000).length ≤ 300 from (by have := hs2.len; omega)), by dsimp only; rw [endsC_snoc, flatC_snoc]; exact (hQ40).all, ((((((((((((((((((hk.trans hk2).trans hk3).step hx4 (by intros; (try simp only [] at *); omega)).trans hk26).trans hk27).trans hk28).step hx29 (by intros; (try simp only [] at *); omega)).trans hk30).trans hk31).trans hk32).trans hk33).trans hk34).trans hk35).step hx36 (by intros; (try simp only [] at *); omega)).trans hk37).step hx38 (by intros; (try simp only [] at *); omega)).trans hk39).step hx40 (by intros; (try simp only [] at *); omega))⟩ (by dsimp only; omega)
                    · refine X.d1E (i := 5) rfl (X.dwN rfl) (X.litKF KP2_flat (K := KP2) (xs := [Operand.tmp 101]) (vs := [.agg #[.int .u8 (k.toNat : Int), .slice A m2 c]]) (ys := [.agg #[.int .u8 (k.toNat : Int), .slice A m2 c]]) Tryd.underlying51 Tryd.sizeOf33 Tryd.zeroValue33 rfl rfl rfl rfl rfl (reps1 rfl rfl)) (by rintro _ w41 ⟨rfl, hs41, hB41, hk41, hz41⟩ _; exact hk41.mono (fun _ _ h => h.elim)) ?_
                      rintro _ w41 ⟨rfl, hs41, hB41, hk41, hz41⟩
                      refine X.dE (i := 2) (by kernel_rfl) rfl (X.dwN rfl) (X.BK3.appA (hQ.keep (((((((((((((hk2.trans hk3).step hx4 (by intros; (try simp only [] at *); omega)).trans hk26).trans hk27).trans hk28).step hx29 (by intros; (try simp only [] at *); omega)).trans hk30).trans hk31).trans hk32).trans hk33).trans hk34).trans hk35).trans hk41)) (hs26.keep (((((((((hk27.trans hk28).step hx29 (by intros; (try simp only [] at *); omega)).trans hk30).trans hk31).trans hk32).trans hk33).trans hk34).trans hk35).trans hk41)) Tryd.underlying22 E8 rfl rfl (by rw [FC_len]; have : (l.take 3000).length ≤ 300 := (by have := hs2.len; omega); omega)) (by rintro _ w42 ⟨A42, c42, Z42, rfl, hQ42, hx42⟩ _; exact hx42.mono (fun k _ h => by (try simp only [] at *); omega)) ?_
                      rintro _ w42 ⟨A42, c42, Z42, rfl, hQ42, hx42⟩
                      have hx42' := hx42.size
                      refine X.dE (i := 6) (by kernel_rfl) rfl (X.dwN rfl) (X.BK3.appP hQ42 (hs41.ext hx42 (by intros; (try simp only []); omega)) (by omega) (Nat.le_refl _) ((hs2.keep ((((((((((((hk3.step hx4 (by intros; (try simp only [] at *); omega)).trans hk26).trans hk27).trans hk28).step hx29 (by intros; (try simp only [] at *); omega)).trans hk30).trans hk31).trans hk32).trans hk33).trans hk34).trans hk35).trans hk41)).ext hx42 (by intros; (try simp only []); omega)) Tryd.underlying51 EP rfl rfl (by omega)) (by rintro _ w43 ⟨A43, c43, Z43, rfl, hQ43, hx43⟩ _; exact hx43.mono (fun k _ h => by (try simp only [] at *); omega)) ?_
                      rintro _ w43 ⟨A43, c43, Z43, rfl, hQ43, hx43⟩
                      have hx43' := hx43.size
                      refine X.dTake 7 rfl (by kernel_rfl) (by kernel_rfl) (by kernel_rfl) (X.dwN rfl) (fun w' hk' => X.assign rfl) ?_
                      refine X.dStep (i := 8) (by kernel_rfl) rfl (X.dwN rfl) (X.assign rfl) (fun h => absurd h (by decide)) ?_
                      refine X.dEnd (by kernel_rfl) ?_
                      refine X.region ?_
                      refine X.opw X.wN rfl (X.move (v := .slice _ _ _) rfl) ?_
                      refine X.opw X.wN rfl (X.move rfl) ?_
                      refine X.opw X.wN rfl (X.lenSl Tryd.underlying22 rfl) ?_
                      refine X.opE X.wN rfl (X.litKF KNt_flat (K := KNt) (xs := [Operand.tmp 106]) (vs := [.int .i64 (((flatC ps ++ FC k (l.take 3000)).length : Nat) : Int)]) (ys := [(flatC ps ++ FC k (l.take 3000)).length]) Tryd.underlying56 Tryd.sizeOf3 Tryd.zeroValue3 rfl rfl rfl rfl rfl (repsNt _)) ?_
                      rintro _ w44 ⟨rfl, hs44, hB44, hk44, hz44⟩
                      refine X.opE X.wN rfl (X.BK3.appN (hQ43.keep hk44) hs44 Tryd.underlying56 EI rfl rfl (by rw [List.length_singleton]; omega)) ?_
                      rintro _ w45 ⟨A45, c45, Z45, rfl, hQ45, hx45⟩
                      have hx45' := hx45.size
                      refine X.opw X.wN rfl (X.assign rfl) ?_
                      refine X.opsEnd ?_
                      refine X.inBlock ?_
                      refine X.region ?_
                      refine X.opw X.wN rfl (X.move (v := .int .i64 _) rfl) ?_
                      refine X.opw X.wN rfl (X.add rfl rfl (X.w_i64 (by omega))) ?_
                      refine X.opw X.wN rfl (X.assign (v := .int .i64 _) rfl) ?_
                      refine X.opsEnd ?_
                      refine hback (i + 1, _, _, _, ps ++ [(k, (l.take 3000))], Z42, Z45, Z43) _ _ ⟨rfl, rfl, rfl, rfl, rfl, rfl, trivial⟩ ⟨by dsimp only; omega, by dsimp only; omega, by dsimp only; rw [List.length_append, hpl]; rfl, small_snoc hsm (show (l.take 3000).length ≤ 300 from (by have := hs2.len; omega)), by dsimp only; rw [endsC_snoc, flatC_snoc]; exact (hQ45).all, ((((((((((((((((((hk.trans hk2).trans hk3).step hx4 (by intros; (try simp only [] at *); omega)).trans hk26).trans hk27).trans hk28).step hx29 (by intros; (try simp only [] at *); omega)).trans hk30).trans hk31).trans hk32).trans hk33).trans hk34).trans hk35).trans hk41).step hx42 (by intros; (try simp only [] at *); omega)).step hx43 (by intros; (try simp only [] at *); omega)).trans hk44).step hx45 (by intros; (try simp only [] at *); omega))⟩ (by dsimp only; omega)
    · obtain ⟨kq, hkq, hkL⟩ : ∃ kq : Nat, a % ((flatC ps).length + 1) = kq ∧ kq ≤ (flatC ps).length := ⟨_, rfl, by have := Nat.mod_lt a (show 0 < (flatC ps).length + 1 by omega); omega⟩
      refine X.opw X.wN rfl (X.pickT (v := .bool false) rfl rfl) ?_
      refine X.opsEnd ?_
      refine X.condF rfl ?_
      refine X.exit rfl ?_
      refine X.seq ?_
      refine X.region ?_
      refine X.opw X.wN rfl (X.move (v := .int .u64 _) rfl) ?_
      refine X.opw X.wN rfl (X.move (v := .slice _ _ _) rfl) ?_
      refine X.opw X.wN rfl (X.lenSl Tryd.underlying22 rfl) ?_
      refine X.opw X.wN rfl (X.add rfl rfl (X.w_i64 (by omega))) ?_
      refine X.opw X.wN rfl (X.cvI Tryd.underlying3 Tryd.underlying34 rfl (X.w_u64 (by omega))) ?_
      refine X.opw X.wN rfl (X.rem (c := (kq : Int)) rfl rfl (by omega) (by rw [← hkq, Int.tmod_eq_emod_of_nonneg (by omega)]; exact (Int.natCast_emod a ((flatC ps).length + 1)).symm)) ?_
      refine X.opw X.wN rfl (X.cvI Tryd.underlying34 Tryd.underlying3 rfl (X.w_i64 (by omega))) ?_
      refine X.opw X.wN rfl (X.assign (v := .int .i64 _) rfl) ?_
      refine X.opsEnd ?_
      refine X.seq ?_
      refine X.region ?_
      refine X.opw X.wN rfl (X.assign rfl) ?_
      refine X.opw X.wN rfl (X.assign rfl) ?_
      refine X.opsEnd ?_
      refine X.seq ?_
      refine X.block ?_
      -- LOOP live: 5=all, 6=ends, 7=some, 17=k, 18=whole*, 19=at*
      refine X.loopL (σ := Nat) (fun s => [(5, .slice Aa (flatC ps).length ca), (6, .slice Ae (endsC ps).length ce), (7, .slice Ap ps.length cp), (17, .int .i64 (kq : Int)), (18, .int .i64 (s : Int)), (19, .int .i64 (((flatC (ps.take s)).length : Nat) : Int))]) (fun s w' => s ≤ ps.length ∧ (flatC (ps.take s)).length ≤ kq ∧ Keep wl w' ∧ Keep w w') (fun s => ps.length - s) 0 ⟨rfl, rfl, rfl, rfl, rfl, rfl, trivial⟩ ⟨by omega, Nat.zero_le _, Keep.refl _, hk⟩ ?_
      rintro j b2 wm ⟨hj1, hj2, hwm, hkm⟩ hback
      have hkm' := hkm.size
      have hwm' := hwm.size
      refine X.seq ?_
      refine X.seq ?_
      refine X.region ?_
      refine X.opw X.wN rfl (X.move (v := .int .i64 _) rfl) ?_
      refine X.opw X.wN rfl (X.move (v := .slice _ _ _) rfl) ?_
      refine X.opw X.wN rfl (X.lenSl Tryd.underlying56 rfl) ?_
      refine X.opP X.wN rfl rfl (X.lss rfl rfl) (fun h119 => ?_) (fun h119 => ?_)
      · have hxE := endsC_at (ps := ps) (j := j) (by omega)
        refine X.opw X.wN rfl (X.move (v := .bool true) rfl) ?_
        refine X.opw (X.wG rfl rfl rfl) rfl (X.move (v := .slice _ _ _) rfl) ?_
        refine X.opw (X.wG rfl rfl rfl) rfl (X.move (v := .int .i64 _) rfl) ?_
        refine X.opw (X.wG rfl rfl rfl) rfl (X.idxS (hsE.keep hwm) Tryd.underlying56 Tryd.sizeOf3 rfl rfl ⟨by omega, by omega⟩) ?_
        refine X.opw (X.wG rfl rfl rfl) rfl (X.loadS Tryd.isAgg3 (hsE.keep hwm) hxE rfl (fun _ h => by rw [h.1]; rfl)) ?_
        refine X.opw (X.wG rfl rfl rfl) rfl (X.move (v := .int .i64 _) rfl) ?_
        refine X.opP (X.wG rfl rfl rfl) rfl rfl (X.leq rfl rfl) (fun h126 => ?_) (fun h126 => ?_)
        · refine X.opw X.wN rfl (X.pickT (v := .bool true) rfl rfl) ?_
          refine X.opsEnd ?_
          refine X.condT rfl ?_
          refine X.skip ?_
          refine X.block ?_
          refine X.seq ?_
          refine X.region ?_
          refine X.opw X.wN rfl (X.move (v := .slice _ _ _) rfl) ?_
          refine X.opw X.wN rfl (X.move (v := .int .i64 _) rfl) ?_
          refine X.opw X.wN rfl (X.idxS (hsE.keep hwm) Tryd.underlying56 Tryd.sizeOf3 rfl rfl ⟨by omega, by omega⟩) ?_
          refine X.opw X.wN rfl (X.loadS Tryd.isAgg3 (hsE.keep hwm) hxE rfl (fun _ h => by rw [h.1]; rfl)) ?_
          refine X.opw X.wN rfl (X.assign (v := .int .i64 _) rfl) ?_
          refine X.opsEnd ?_
          refine X.region ?_
          refine X.opw X.wN rfl (X.move (v := .int .i64 _) rfl) ?_
          refine X.opw X.wN rfl (X.add rfl rfl (X.w_i64 (by omega))) ?_
          refine X.opw X.wN rfl (X.assign (v := .int .i64 _) rfl) ?_
          refine X.opsEnd ?_
          refine X.inBlock ?_
          refine hback (j + 1) _ _ ⟨rfl, rfl, rfl, rfl, rfl, rfl, trivial⟩ ⟨by omega, by omega, hwm, hkm⟩ (by omega)
        · have hscan := scan_flat ps j kq hsm hj1 hj2 (.inr (by omega))
          refine X.opw X.wN rfl (X.pickT (v := .bool false) rfl rfl) ?_
          refine X.opsEnd ?_
          refine X.condF rfl ?_
          refine X.exit rfl ?_
          refine X.seq ?_
          refine X.region ?_
          refine X.opw X.wN rfl (X.move (v := .slice _ _ _) rfl) ?_
          refine X.opw X.wN rfl (X.move (v := .int .i64 _) rfl) ?_
          refine X.opw X.wN rfl (X.cutHr Tryd.underlying22 Tryd.sizeOf5 rfl rfl (by omega)) ?_
          refine X.opE X.wN rfl (X.callE (Scan_c _ ((hsA.keep hwm).take kq (by omega)) (by omega) (by omega) (by omega) (hT.keep hkm)) Tryd.call28 rfl rfl) ?_
          rintro _ w46 ⟨v46, G46, b46, rfl, hP46, hb46, hk46⟩
          have hk46' := hk46.size
          refine X.opw X.wN rfl (X.move rfl) ?_
          refine X.opw X.wN rfl (X.extr rfl rfl) ?_
          refine X.opw X.wN rfl (X.extr rfl rfl) ?_
          refine X.opw X.wN rfl (X.assign rfl) ?_
          refine X.opw X.wN rfl (X.assign (v := .int .i64 _) rfl) ?_
          refine X.opsEnd ?_
          refine X.seq ?_
          refine X.region ?_
          refine X.opw X.wN rfl (X.move rfl) ?_
          refine X.opw X.wN rfl (X.move (v := .slice _ _ _) rfl) ?_
          refine X.opw X.wN rfl (X.move (v := .int .i64 _) rfl) ?_
          refine X.opw X.wN rfl (X.cutHr Tryd.underlying51 Tryd.sizeOf33 rfl rfl (by omega)) ?_
          obtain ⟨vq, Aq, cq, rfl, hq1, hSq, hDq⟩ := (hP46).rd2
          refine X.opE X.wN rfl (X.callE (Same_c _ hSq (((hsP.keep hwm).take j (by omega)).keep hk46) hDq ((PData_take hDP j).move (fun _ h => h) (fun k _ hk => (hwm.trans hk46).keep k hk id))) Tryd.call30 rfl rfl) ?_
          rintro _ w47 ⟨rfl, hk47⟩
          have hk47' := hk47.size
          refine X.opw X.wN rfl (X.move (v := .bool _) rfl) ?_
          refine X.forkO 146 rfl (fun h146 => ?_) (fun h146 => ?_)
          · refine X.opw (X.wG rfl rfl rfl) rfl (X.move (v := .int .i64 _) rfl) ?_
            refine X.opw (X.wG rfl rfl rfl) rfl (X.move (v := .int .i64 _) rfl) ?_
            refine X.opw (X.wG rfl rfl rfl) rfl (X.eqI rfl rfl) ?_
            refine X.opw X.wN rfl (X.pickT (v := .bool _) rfl rfl) ?_
            refine X.opw X.wN rfl (X.assign (v := .bool _) rfl) ?_
            refine X.opsEnd ?_
            refine X.ret1 (v := (.bool _)) Tryd.func8 Tryd.results8 rfl ?_
            exact ⟨by rw [hscan]; simp, ((hkm.trans hk46).trans hk47)⟩
          · rw [hscan] at h146; simp at h146
      · have hscan := scan_flat ps j kq hsm hj1 hj2 (.inl (by omega))
        refine X.opw X.wN rfl (X.move (v := .bool false) rfl) ?_
        refine X.opS rfl rfl rfl rfl rfl ?_
        refine X.opS rfl rfl rfl rfl rfl ?_
        refine X.opS rfl rfl rfl rfl rfl ?_
        refine X.opS rfl rfl rfl rfl rfl ?_
        refine X.opS rfl rfl rfl rfl rfl ?_
        refine X.opS rfl rfl rfl rfl rfl ?_
        refine X.opw X.wN rfl (X.pickF (v := .bool false) rfl rfl) ?_
        refine X.opsEnd ?_
        refine X.condF rfl ?_
        refine X.exit rfl ?_
        refine X.seq ?_
        refine X.region ?_
        refine X.opw X.wN rfl (X.move (v := .slice _ _ _) rfl) ?_
        refine X.opw X.wN rfl (X.move (v := .int .i64 _) rfl) ?_
        refine X.opw X.wN rfl (X.cutHr Tryd.underlying22 Tryd.sizeOf5 rfl rfl (by omega)) ?_
        refine X.opE X.wN rfl (X.callE (Scan_c _ ((hsA.keep hwm).take kq (by omega)) (by omega) (by omega) (by omega) (hT.keep hkm)) Tryd.call28 rfl rfl) ?_
        rintro _ w48 ⟨v48, G48, b48, rfl, hP48, hb48, hk48⟩
        have hk48' := hk48.size
        refine X.opw X.wN rfl (X.move rfl) ?_
        refine X.opw X.wN rfl (X.extr rfl rfl) ?_
        refine X.opw X.wN rfl (X.extr rfl rfl) ?_
        refine X.opw X.wN rfl (X.assign rfl) ?_
        refine X.opw X.wN rfl (X.assign (v := .int .i64 _) rfl) ?_
        refine X.opsEnd ?_
        refine X.seq ?_
        refine X.region ?_
        refine X.opw X.wN rfl (X.move rfl) ?_
        refine X.opw X.wN rfl (X.move (v := .slice _ _ _) rfl) ?_
        refine X.opw X.wN rfl (X.move (v := .int .i64 _) rfl) ?_
        refine X.opw X.wN rfl (X.cutHr Tryd.underlying51 Tryd.sizeOf33 rfl rfl (by omega)) ?_
        obtain ⟨vq, Aq, cq, rfl, hq1, hSq, hDq⟩ := (hP48).rd2
        refine X.opE X.wN rfl (X.callE (Same_c _ hSq (((hsP.keep hwm).take j (by omega)).keep hk48) hDq ((PData_take hDP j).move (fun _ h => h) (fun k _ hk => (hwm.trans hk48).keep k hk id))) Tryd.call30 rfl rfl) ?_
        rintro _ w49 ⟨rfl, hk49⟩
        have hk49' := hk49.size
        refine X.opw X.wN rfl (X.move (v := .bool _) rfl) ?_
        refine X.forkO 146 rfl (fun h146 => ?_) (fun h146 => ?_)
        · refine X.opw (X.wG rfl rfl rfl) rfl (X.move (v := .int .i64 _) rfl) ?_
          refine X.opw (X.wG rfl rfl rfl) rfl (X.move (v := .int .i64 _) rfl) ?_
          refine X.opw (X.wG rfl rfl rfl) rfl (X.eqI rfl rfl) ?_
          refine X.opw X.wN rfl (X.pickT (v := .bool _) rfl rfl) ?_
          refine X.opw X.wN rfl (X.assign (v := .bool _) rfl) ?_
          refine X.opsEnd ?_
          refine X.ret1 (v := (.bool _)) Tryd.func8 Tryd.results8 rfl ?_
          exact ⟨by rw [hscan]; simp, ((hkm.trans hk48).trans hk49)⟩
        · rw [hscan] at h146; simp at h146
  · obtain ⟨kq, hkq, hkL⟩ : ∃ kq : Nat, a % ((flatC ps).length + 1) = kq ∧ kq ≤ (flatC ps).length := ⟨_, rfl, by have := Nat.mod_lt a (show 0 < (flatC ps).length + 1 by omega); omega⟩
    refine X.opw X.wN rfl (X.move (v := .bool false) rfl) ?_
    refine X.opS rfl rfl rfl rfl rfl ?_
    refine X.opS rfl rfl rfl rfl rfl ?_
    refine X.opw X.wN rfl (X.pickF (v := .bool false) rfl rfl) ?_
    refine X.opsEnd ?_
    refine X.condF rfl ?_
    refine X.exit rfl ?_
    refine X.seq ?_
    refine X.region ?_
    refine X.opw X.wN rfl (X.move (v := .int .u64 _) rfl) ?_
    refine X.opw X.wN rfl (X.move (v := .slice _ _ _) rfl) ?_
    refine X.opw X.wN rfl (X.lenSl Tryd.underlying22 rfl) ?_
    refine X.opw X.wN rfl (X.add rfl rfl (X.w_i64 (by omega))) ?_
    refine X.opw X.wN rfl (X.cvI Tryd.underlying3 Tryd.underlying34 rfl (X.w_u64 (by omega))) ?_
    refine X.opw X.wN rfl (X.rem (c := (kq : Int)) rfl rfl (by omega) (by rw [← hkq, Int.tmod_eq_emod_of_nonneg (by omega)]; exact (Int.natCast_emod a ((flatC ps).length + 1)).symm)) ?_
    refine X.opw X.wN rfl (X.cvI Tryd.underlying34 Tryd.underlying3 rfl (X.w_i64 (by omega))) ?_
    refine X.opw X.wN rfl (X.assign (v := .int .i64 _) rfl) ?_
    refine X.opsEnd ?_
    refine X.seq ?_
    refine X.region ?_
    refine X.opw X.wN rfl (X.assign rfl) ?_
    refine X.opw X.wN rfl (X.assign rfl) ?_
    refine X.opsEnd ?_
    refine X.seq ?_
    refine X.block ?_
    -- LOOP live: 5=all, 6=ends, 7=some, 17=k, 18=whole*, 19=at*
    refine X.loopL (σ := Nat) (fun s => [(5, .slice Aa (flatC ps).length ca), (6, .slice Ae (endsC ps).length ce), (7, .slice Ap ps.length cp), (17, .int .i64 (kq : Int)), (18, .int .i64 (s : Int)), (19, .int .i64 (((flatC (ps.take s)).length : Nat) : Int))]) (fun s w' => s ≤ ps.length ∧ (flatC (ps.take s)).length ≤ kq ∧ Keep wl w' ∧ Keep w w') (fun s => ps.length - s) 0 ⟨rfl, rfl, rfl, rfl, rfl, rfl, trivial⟩ ⟨by omega, Nat.zero_le _, Keep.refl _, hk⟩ ?_
    rintro j b2 wm ⟨hj1, hj2, hwm, hkm⟩ hback
    have hkm' := hkm.size
    have hwm' := hwm.size
    refine X.seq ?_
    refine X.seq ?_
    refine X.region ?_
    refine X.opw X.wN rfl (X.move (v := .int .i64 _) rfl) ?_
    refine X.opw X.wN rfl (X.move (v := .slice _ _ _) rfl) ?_
    refine X.opw X.wN rfl (X.lenSl Tryd.underlying56 rfl) ?_
    refine X.opP X.wN rfl rfl (X.lss rfl rfl) (fun h119 => ?_) (fun h119 => ?_)
    · have hxE := endsC_at (ps := ps) (j := j) (by omega)
      refine X.opw X.wN rfl (X.move (v := .bool true) rfl) ?_
      refine X.opw (X.wG rfl rfl rfl) rfl (X.move (v := .slice _ _ _) rfl) ?_
      refine X.opw (X.wG rfl rfl rfl) rfl (X.move (v := .int .i64 _) rfl) ?_
      refine X.opw (X.wG rfl rfl rfl) rfl (X.idxS (hsE.keep hwm) Tryd.underlying56 Tryd.sizeOf3 rfl rfl ⟨by omega, by omega⟩) ?_
      refine X.opw (X.wG rfl rfl rfl) rfl (X.loadS Tryd.isAgg3 (hsE.keep hwm) hxE rfl (fun _ h => by rw [h.1]; rfl)) ?_
      refine X.opw (X.wG rfl rfl rfl) rfl (X.move (v := .int .i64 _) rfl) ?_
      refine X.opP (X.wG rfl rfl rfl) rfl rfl (X.leq rfl rfl) (fun h126 => ?_) (fun h126 => ?_)
      · refine X.opw X.wN rfl (X.pickT (v := .bool true) rfl rfl) ?_
        refine X.opsEnd ?_
        refine X.condT rfl ?_
        refine X.skip ?_
        refine X.block ?_
        refine X.seq ?_
        refine X.region ?_
        refine X.opw X.wN rfl (X.move (v := .slice _ _ _) rfl) ?_
        refine X.opw X.wN rfl (X.move (v := .int .i64 _) rfl) ?_
        refine X.opw X.wN rfl (X.idxS (hsE.keep hwm) Tryd.underlying56 Tryd.sizeOf3 rfl rfl ⟨by omega, by omega⟩) ?_
        refine X.opw X.wN rfl (X.loadS Tryd.isAgg3 (hsE.keep hwm) hxE rfl (fun _ h => by rw [h.1]; rfl)) ?_
        refine X.opw X.wN rfl (X.assign (v := .int .i64 _) rfl) ?_
        refine X.opsEnd ?_
        refine X.region ?_
        refine X.opw X.wN rfl (X.move (v := .int .i64 _) rfl) ?_
        refine X.opw X.wN rfl (X.add rfl rfl (X.w_i64 (by omega))) ?_
        refine X.opw X.wN rfl (X.assign (v := .int .i64 _) rfl) ?_
        refine X.opsEnd ?_
        refine X.inBlock ?_
        refine hback (j + 1) _ _ ⟨rfl, rfl, rfl, rfl, rfl, rfl, trivial⟩ ⟨by omega, by omega, hwm, hkm⟩ (by omega)
      · have hscan := scan_flat ps j kq hsm hj1 hj2 (.inr (by omega))
        refine X.opw X.wN rfl (X.pickT (v := .bool false) rfl rfl) ?_
        refine X.opsEnd ?_
        refine X.condF rfl ?_
        refine X.exit rfl ?_
        refine X.seq ?_
        refine X.region ?_
        refine X.opw X.wN rfl (X.move (v := .slice _ _ _) rfl) ?_
        refine X.opw X.wN rfl (X.move (v := .int .i64 _) rfl) ?_
        refine X.opw X.wN rfl (X.cutHr Tryd.underlying22 Tryd.sizeOf5 rfl rfl (by omega)) ?_
        refine X.opE X.wN rfl (X.callE (Scan_c _ ((hsA.keep hwm).take kq (by omega)) (by omega) (by omega) (by omega) (hT.keep hkm)) Tryd.call28 rfl rfl) ?_
        rintro _ w50 ⟨v50, G50, b50, rfl, hP50, hb50, hk50⟩
        have hk50' := hk50.size
        refine X.opw X.wN rfl (X.move rfl) ?_
        refine X.opw X.wN rfl (X.extr rfl rfl) ?_
        refine X.opw X.wN rfl (X.extr rfl rfl) ?_
        refine X.opw X.wN rfl (X.assign rfl) ?_
        refine X.opw X.wN rfl (X.assign (v := .int .i64 _) rfl) ?_
        refine X.opsEnd ?_
        refine X.seq ?_
        refine X.region ?_
        refine X.opw X.wN rfl (X.move rfl) ?_
        refine X.opw X.wN rfl (X.move (v := .slice _ _ _) rfl) ?_
        refine X.opw X.wN rfl (X.move (v := .int .i64 _) rfl) ?_
        refine X.opw X.wN rfl (X.cutHr Tryd.underlying51 Tryd.sizeOf33 rfl rfl (by omega)) ?_
        obtain ⟨vq, Aq, cq, rfl, hq1, hSq, hDq⟩ := (hP50).rd2
        refine X.opE X.wN rfl (X.callE (Same_c _ hSq (((hsP.keep hwm).take j (by omega)).keep hk50) hDq ((PData_take hDP j).move (fun _ h => h) (fun k _ hk => (hwm.trans hk50).keep k hk id))) Tryd.call30 rfl rfl) ?_
        rintro _ w51 ⟨rfl, hk51⟩
        have hk51' := hk51.size
        refine X.opw X.wN rfl (X.move (v := .bool _) rfl) ?_
        refine X.forkO 146 rfl (fun h146 => ?_) (fun h146 => ?_)
        · refine X.opw (X.wG rfl rfl rfl) rfl (X.move (v := .int .i64 _) rfl) ?_
          refine X.opw (X.wG rfl rfl rfl) rfl (X.move (v := .int .i64 _) rfl) ?_
          refine X.opw (X.wG rfl rfl rfl) rfl (X.eqI rfl rfl) ?_
          refine X.opw X.wN rfl (X.pickT (v := .bool _) rfl rfl) ?_
          refine X.opw X.wN rfl (X.assign (v := .bool _) rfl) ?_
          refine X.opsEnd ?_
          refine X.ret1 (v := (.bool _)) Tryd.func8 Tryd.results8 rfl ?_
          exact ⟨by rw [hscan]; simp, ((hkm.trans hk50).trans hk51)⟩
        · rw [hscan] at h146; simp at h146
    · have hscan := scan_flat ps j kq hsm hj1 hj2 (.inl (by omega))
      refine X.opw X.wN rfl (X.move (v := .bool false) rfl) ?_
      refine X.opS rfl rfl rfl rfl rfl ?_
      refine X.opS rfl rfl rfl rfl rfl ?_
      refine X.opS rfl rfl rfl rfl rfl ?_
      refine X.opS rfl rfl rfl rfl rfl ?_
      refine X.opS rfl rfl rfl rfl rfl ?_
      refine X.opS rfl rfl rfl rfl rfl ?_
      refine X.opw X.wN rfl (X.pickF (v := .bool false) rfl rfl) ?_
      refine X.opsEnd ?_
      refine X.condF rfl ?_
      refine X.exit rfl ?_
      refine X.seq ?_
      refine X.region ?_
      refine X.opw X.wN rfl (X.move (v := .slice _ _ _) rfl) ?_
      refine X.opw X.wN rfl (X.move (v := .int .i64 _) rfl) ?_
      refine X.opw X.wN rfl (X.cutHr Tryd.underlying22 Tryd.sizeOf5 rfl rfl (by omega)) ?_
      refine X.opE X.wN rfl (X.callE (Scan_c _ ((hsA.keep hwm).take kq (by omega)) (by omega) (by omega) (by omega) (hT.keep hkm)) Tryd.call28 rfl rfl) ?_
      rintro _ w52 ⟨v52, G52, b52, rfl, hP52, hb52, hk52⟩
      have hk52' := hk52.size
      refine X.opw X.wN rfl (X.move rfl) ?_
      refine X.opw X.wN rfl (X.extr rfl rfl) ?_
      refine X.opw X.wN rfl (X.extr rfl rfl) ?_
      refine X.opw X.wN rfl (X.assign rfl) ?_
      refine X.opw X.wN rfl (X.assign (v := .int .i64 _) rfl) ?_
      refine X.opsEnd ?_
      refine X.seq ?_
      refine X.region ?_
      refine X.opw X.wN rfl (X.move rfl) ?_
      refine X.opw X.wN rfl (X.move (v := .slice _ _ _) rfl) ?_
      refine X.opw X.wN rfl (X.move (v := .int .i64 _) rfl) ?_
      refine X.opw X.wN rfl (X.cutHr Tryd.underlying51 Tryd.sizeOf33 rfl rfl (by omega)) ?_
      obtain ⟨vq, Aq, cq, rfl, hq1, hSq, hDq⟩ := (hP52).rd2
      refine X.opE X.wN rfl (X.callE (Same_c _ hSq (((hsP.keep hwm).take j (by omega)).keep hk52) hDq ((PData_take hDP j).move (fun _ h => h) (fun k _ hk => (hwm.trans hk52).keep k hk id))) Tryd.call30 rfl rfl) ?_
      rintro _ w53 ⟨rfl, hk53⟩
      have hk53' := hk53.size
      refine X.opw X.wN rfl (X.move (v := .bool _) rfl) ?_
      refine X.forkO 146 rfl (fun h146 => ?_) (fun h146 => ?_)
      · refine X.opw (X.wG rfl rfl rfl) rfl (X.move (v := .int .i64 _) rfl) ?_
        refine X.opw (X.wG rfl rfl rfl) rfl (X.move (v := .int .i64 _) rfl) ?_
        refine X.opw (X.wG rfl rfl rfl) rfl (X.eqI rfl rfl) ?_
        refine X.opw X.wN rfl (X.pickT (v := .bool _) rfl rfl) ?_
        refine X.opw X.wN rfl (X.assign (v := .bool _) rfl) ?_
        refine X.opsEnd ?_
        refine X.ret1 (v := (.bool _)) Tryd.func8 Tryd.results8 rfl ?_
        exact ⟨by rw [hscan]; simp, ((hkm.trans hk52).trans hk53)⟩
      · rw [hscan] at h146; simp at h146
end Go.Proofs.YtleaidgngkfjbaaDoor
