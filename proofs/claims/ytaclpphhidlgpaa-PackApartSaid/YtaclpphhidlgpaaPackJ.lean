/- The walk of the law PackApart. -/
import Derived.Test.YtaclpphhidlgpaaPackP
namespace Go.Proofs.Ytaclpphhidlgpaa
open Go Go.Proofs.Ytaclpphhidlgpaa.X
set_option linter.unusedVariables false
set_option linter.unusedSimpArgs false
-- f4 "pedigree/pedigreelaw03.PackApart" params [33, 33, 25, 25, 23, 23] results [4] -> [(ResultVar.tmp 12)] n
set_option maxHeartbeats 4000000 in
set_option maxRecDepth 100000 in
theorem PackApart_c (w : World) (x : Int) (g0 : (Lit.int .u64 x).wf = true) (y : Int) (g1 : (Lit.int .u64 y).wf = true) (A1 : Option Addr) (n1 c1 : Nat) (l1 : List UInt8) (hc1 : n1 ≤ c1) (s1 : Sl KB 0 w.heap.size w A1 n1 l1) (A2 : Option Addr) (n2 c2 : Nat) (l2 : List UInt8) (hc2 : n2 ≤ c2) (s2 : Sl KB 0 w.heap.size w A2 n2 l2)
  (A3 : Option Addr) (n3 c3 : Nat) (l3 : List VAL) (hc3 : n3 ≤ c3) (s3 : Sl KV 0 w.heap.size w A3 n3 l3) (A4 : Option Addr) (n4 c4 : Nat) (l4 : List VAL) (hc4 : n4 ≤ c4) (s4 : Sl KV 0 w.heap.size w A4 n4 l4) :
    Ret Try.prog 4 #[.int .u64 x, .int .u64 y, .slice A1 n1 c1, .slice A2 n2 c2, .slice A3 n3 c3, .slice A4 n4 c4] w fun r w' => r = .bool true ∧ Keep w w' := by
  obtain ⟨gx0, gx1⟩ := u64_ok g0
  obtain ⟨gy0, gy1⟩ := u64_ok g1
  refine X.enter Try.func4 rfl Try.ntmps4 rfl ?_
  refine X.seq ?_
  refine X.region ?_
  refine X.opw X.wN rfl (X.assign rfl) ?_
  refine X.opsEnd ?_
  refine X.seq ?_
  refine X.region ?_
  refine X.opw X.wN rfl (X.move (v := .slice _ _ _) rfl) ?_
  refine X.opE X.wN rfl (X.callE (short_c _ s1 (by omega)) Try.call15 rfl rfl) ?_
  rintro _ w1 ⟨m1, rfl, hmc1, hmt1, hs1, hk1⟩
  have hk1' := hk1.size
  refine X.opw X.wN rfl (X.move (v := .slice _ _ _) rfl) ?_
  refine X.opE X.wN rfl (X.callE (short_c _ (s2.keep hk1) (by omega)) Try.call15 rfl rfl) ?_
  rintro _ w2 ⟨m2, rfl, hmc2, hmt2, hs2, hk2⟩
  have hk2' := hk2.size
  refine X.opw X.wN rfl (X.move (v := .slice _ _ _) rfl) ?_
  refine X.opE X.wN rfl (X.callE (cut_c _ (s3.keep (hk1.trans hk2)) (by omega) (by omega)) Try.call10 rfl rfl) ?_
  rintro v3 w3 ⟨hM3, hk3⟩
  have hk3' := hk3.size
  refine X.opw X.wN rfl (X.move (v := .slice _ _ _) rfl) ?_
  refine X.opE X.wN rfl (X.callE (cut_c _ (s4.keep ((hk1.trans hk2).trans hk3)) (by omega) (by omega)) Try.call10 rfl rfl) ?_
  rintro v4 w4 ⟨hM4, hk4⟩
  have hk4' := hk4.size
  refine X.opw X.wN rfl (X.assign (v := .slice _ _ _) rfl) ?_
  refine X.opw X.wN rfl (X.assign (v := .slice _ _ _) rfl) ?_
  refine X.opw X.wN rfl (X.assign rfl) ?_
  refine X.opw X.wN rfl (X.assign rfl) ?_
  refine X.opsEnd ?_
  refine X.seq ?_
  refine X.seq ?_
  refine X.regionD (fun _ => False) 22 (by kernel_rfl) (by kernel_rfl) (fun w5 hk5 hz5 => ?_)
  refine X.dTake 0 rfl (by kernel_rfl) (by kernel_rfl) (by kernel_rfl) (X.dwN rfl) (fun w' hk' => X.move (v := .int .u64 _) rfl) ?_
  refine X.dTake 2 rfl (by kernel_rfl) (by kernel_rfl) (by kernel_rfl) (X.dwN rfl) (fun w' hk' => X.move (v := .int .u64 _) rfl) ?_
  refine X.dTake 5 rfl (by kernel_rfl) (by kernel_rfl) (by kernel_rfl) (X.dwN rfl) (fun w' hk' => X.move (v := .int .u64 _) rfl) ?_
  refine X.dTake 6 rfl (by kernel_rfl) (by kernel_rfl) (by kernel_rfl) (X.dwN rfl) (fun w' hk' => X.move (v := .int .u64 _) rfl) ?_
  refine X.dTake 7 rfl (by kernel_rfl) (by kernel_rfl) (by kernel_rfl) (X.dwN rfl) (fun w' hk' => X.eqI rfl rfl) ?_
  refine X.dE (i := 1) (by kernel_rfl) rfl (X.dwN rfl) (X.callE (Num_c _ (by omega) (by omega) _) Try.call17 rfl rfl) (by rintro v6 w6 ⟨hM6, hk6⟩ _; exact hk6.mono (fun _ _ h => h.elim)) ?_
  rintro v6 w6 ⟨hM6, hk6⟩
  have hk6' := hk6.size
  refine X.dE (i := 3) (by kernel_rfl) rfl (X.dwN rfl) (X.callE (Num_c _ (by omega) (by omega) _) Try.call17 rfl rfl) (by rintro v7 w7 ⟨hM7, hk7⟩ _; exact hk7.mono (fun _ _ h => h.elim)) ?_
  rintro v7 w7 ⟨hM7, hk7⟩
  have hk7' := hk7.size
  obtain ⟨A9, c9, rfl, hc9, hs9⟩ := (hM6.keep hk7).slF KB_flat 0 (fun _ _ => Nat.zero_le _)
  obtain ⟨A10, c10, rfl, hc10, hs10⟩ := hM7.slF KB_flat 0 (fun _ _ => Nat.zero_le _)
  refine X.dE (i := 4) (by kernel_rfl) rfl (X.dwN rfl) (X.callE (begins_c _ hs9 hs10 (by omega)) Try.call16 rfl rfl) (by rintro _ w8 ⟨rfl, hk8⟩ _; exact hk8.mono (fun _ _ h => h.elim)) ?_
  rintro _ w8 ⟨rfl, hk8⟩
  have hk8' := hk8.size
  refine X.dTake 8 rfl (by kernel_rfl) (by kernel_rfl) (by kernel_rfl) (X.dwN rfl) (fun w' hk' => X.neB Try.underlying4 rfl rfl) ?_
  refine X.dTake 9 rfl (by kernel_rfl) (by kernel_rfl) (by kernel_rfl) (X.dwN rfl) (fun w' hk' => X.move (v := .bool _) rfl) ?_
  refine X.dFork 34 rfl (fun h34 => ?_) (fun h34 => ?_)
  · rw [num_begI gx0 gy0] at h34; simp at h34
  · refine X.dTake 10 rfl (by kernel_rfl) (by kernel_rfl) (by kernel_rfl) (X.dwG rfl rfl rfl) (fun w' hk' => X.move (v := .slice _ _ _) rfl) ?_
    refine X.dTake 12 rfl (by kernel_rfl) (by kernel_rfl) (by kernel_rfl) (X.dwG rfl rfl rfl) (fun w' hk' => X.move (v := .slice _ _ _) rfl) ?_
    refine X.dTake 15 rfl (by kernel_rfl) (by kernel_rfl) (by kernel_rfl) (X.dwG rfl rfl rfl) (fun w' hk' => X.move (v := .slice _ _ _) rfl) ?_
    refine X.dTake 16 rfl (by kernel_rfl) (by kernel_rfl) (by kernel_rfl) (X.dwG rfl rfl rfl) (fun w' hk' => X.str Try.underlying25 Try.underlying5 Try.underlying9 rfl KB_is rfl (hs1.keep (((((((hk2.trans hk3).trans hk4).trans hk5).trans hk6).trans hk7).trans hk8).trans hk'))) ?_
    refine X.dTake 17 rfl (by kernel_rfl) (by kernel_rfl) (by kernel_rfl) (X.dwG rfl rfl rfl) (fun w' hk' => X.move (v := .slice _ _ _) rfl) ?_
    refine X.dTake 18 rfl (by kernel_rfl) (by kernel_rfl) (by kernel_rfl) (X.dwG rfl rfl rfl) (fun w' hk' => X.str Try.underlying25 Try.underlying5 Try.underlying9 rfl KB_is rfl (hs2.keep ((((((hk3.trans hk4).trans hk5).trans hk6).trans hk7).trans hk8).trans hk'))) ?_
    refine X.dTake 19 rfl (by kernel_rfl) (by kernel_rfl) (by kernel_rfl) (X.dwG rfl rfl rfl) (fun w' hk' => X.eqD rfl rfl) ?_
    refine X.dE (i := 11) (by kernel_rfl) rfl (X.dwG rfl rfl rfl) (X.callE (Text_c _ (hs1.keep ((((((hk2.trans hk3).trans hk4).trans hk5).trans hk6).trans hk7).trans hk8)) (by omega)) Try.call18 rfl rfl) (by rintro v11 w11 ⟨hM11, hk11⟩ _; exact hk11.mono (fun _ _ h => h.elim)) ?_
    rintro v11 w11 ⟨hM11, hk11⟩
    have hk11' := hk11.size
    refine X.dE (i := 13) (by kernel_rfl) rfl (X.dwG rfl rfl rfl) (X.callE (Text_c _ (hs2.keep ((((((hk3.trans hk4).trans hk5).trans hk6).trans hk7).trans hk8).trans hk11)) (by omega)) Try.call18 rfl rfl) (by rintro v12 w12 ⟨hM12, hk12⟩ _; exact hk12.mono (fun _ _ h => h.elim)) ?_
    rintro v12 w12 ⟨hM12, hk12⟩
    have hk12' := hk12.size
    obtain ⟨A14, c14, rfl, hc14, hs14⟩ := (hM11.keep hk12).slF KB_flat 0 (fun _ _ => Nat.zero_le _)
    obtain ⟨A15, c15, rfl, hc15, hs15⟩ := hM12.slF KB_flat 0 (fun _ _ => Nat.zero_le _)
    refine X.dE (i := 14) (by kernel_rfl) rfl (X.dwG rfl rfl rfl) (X.callE (begins_c _ hs14 hs15 (by omega)) Try.call16 rfl rfl) (by rintro _ w13 ⟨rfl, hk13⟩ _; exact hk13.mono (fun _ _ h => h.elim)) ?_
    rintro _ w13 ⟨rfl, hk13⟩
    have hk13' := hk13.size
    refine X.dTake 20 rfl (by kernel_rfl) (by kernel_rfl) (by kernel_rfl) (X.dwG rfl rfl rfl) (fun w' hk' => X.neB Try.underlying4 rfl rfl) ?_
    refine X.dTake 21 rfl (by kernel_rfl) (by kernel_rfl) (by kernel_rfl) (X.dwN rfl) (fun w' hk' => X.pickF (v := .bool _) rfl rfl) ?_
    refine X.dEnd (by kernel_rfl) ?_
    refine X.condB rfl (fun hc => ?_) (fun hc => ?_)
    · rw [textB_beg, dec_bytes] at hc; simp at hc
    · refine X.skip ?_
      refine X.seq ?_
      refine X.region ?_
      refine X.opw X.wN rfl (X.move rfl) ?_
      obtain ⟨A17, c17, rfl, hc17, hs17⟩ := (hM3.keep (((((((hk4.trans hk5).trans hk6).trans hk7).trans hk8).trans hk11).trans hk12).trans hk13)).slF KV_flat 0 (fun _ _ => Nat.zero_le _)
      refine X.opE X.wN rfl (X.callE (Tuple_c _ hs17 (by omega)) Try.call19 rfl rfl) ?_
      rintro _ w16 ⟨v16, rfl, hM16, hk16⟩
      have hk16' := hk16.size
      refine X.opw X.wN rfl (X.move rfl) ?_
      refine X.opw X.wN rfl (X.extr rfl rfl) ?_
      refine X.opw X.wN rfl (X.extr rfl rfl) ?_
      refine X.opw X.wN rfl (X.assign rfl) ?_
      refine X.opw X.wN rfl (X.assign (v := .int .i64 _) rfl) ?_
      refine X.opsEnd ?_
      refine X.seq ?_
      refine X.region ?_
      refine X.opw X.wN rfl (X.move rfl) ?_
      obtain ⟨A19, c19, rfl, hc19, hs19⟩ := (hM4.keep (((((((hk5.trans hk6).trans hk7).trans hk8).trans hk11).trans hk12).trans hk13).trans hk16)).slF KV_flat 0 (fun _ _ => Nat.zero_le _)
      refine X.opE X.wN rfl (X.callE (Tuple_c _ hs19 (by omega)) Try.call19 rfl rfl) ?_
      rintro _ w18 ⟨v18, rfl, hM18, hk18⟩
      have hk18' := hk18.size
      refine X.opw X.wN rfl (X.move rfl) ?_
      refine X.opw X.wN rfl (X.extr rfl rfl) ?_
      refine X.opw X.wN rfl (X.extr rfl rfl) ?_
      refine X.opw X.wN rfl (X.assign rfl) ?_
      refine X.opw X.wN rfl (X.assign (v := .int .i64 _) rfl) ?_
      refine X.opsEnd ?_
      refine X.seq ?_
      refine X.region ?_
      refine X.opw X.wN rfl (X.move (v := .int .i64 _) rfl) ?_
      refine X.opP X.wN rfl rfl (X.neI rfl rfl) (fun h58 => ?_) (fun h58 => ?_)
      · refine X.opw X.wN rfl (X.move (v := .bool true) rfl) ?_
        refine X.opS rfl rfl rfl rfl rfl ?_
        refine X.opS rfl rfl rfl rfl rfl ?_
        refine X.opw X.wN rfl (X.pickT (v := .bool true) rfl rfl) ?_
        refine X.opw X.wN rfl (X.move (v := .bool true) rfl) ?_
        refine X.opS rfl rfl rfl rfl rfl ?_
        refine X.opS rfl rfl rfl rfl rfl ?_
        refine X.opS rfl rfl rfl rfl rfl ?_
        refine X.opS rfl rfl rfl rfl rfl ?_
        refine X.opS rfl rfl rfl rfl rfl ?_
        refine X.opS rfl rfl rfl rfl rfl ?_
        refine X.opS rfl rfl rfl rfl rfl ?_
        refine X.opw X.wN rfl (X.pickT (v := .bool true) rfl rfl) ?_
        refine X.opw X.wN rfl (X.move (v := .bool true) rfl) ?_
        refine X.opE (X.wG rfl rfl rfl) rfl (X.callE (alive_c _) Try.call13 rfl rfl) ?_
        rintro _ w20 ⟨rfl, hk20⟩
        have hk20' := hk20.size
        refine X.opw X.wN rfl (X.pickT (v := .bool _) rfl rfl) ?_
        refine X.opw X.wN rfl (X.assign (v := .bool _) rfl) ?_
        refine X.opsEnd ?_
        refine X.ret1 (v := (.bool _)) Try.func4 Try.results4 rfl ?_
        exact ⟨rfl, (((((((((((((hk1.trans hk2).trans hk3).trans hk4).trans hk5).trans hk6).trans hk7).trans hk8).trans hk11).trans hk12).trans hk13).trans hk16).trans hk18).trans hk20)⟩
      · refine X.opw X.wN rfl (X.move (v := .bool false) rfl) ?_
        refine X.opw (X.wG rfl rfl rfl) rfl (X.move (v := .int .i64 _) rfl) ?_
        refine X.opP (X.wG rfl rfl rfl) rfl rfl (X.neI rfl rfl) (fun h61 => ?_) (fun h61 => ?_)
        · refine X.opw X.wN rfl (X.pickF (v := .bool true) rfl rfl) ?_
          refine X.opw X.wN rfl (X.move (v := .bool true) rfl) ?_
          refine X.opS rfl rfl rfl rfl rfl ?_
          refine X.opS rfl rfl rfl rfl rfl ?_
          refine X.opS rfl rfl rfl rfl rfl ?_
          refine X.opS rfl rfl rfl rfl rfl ?_
          refine X.opS rfl rfl rfl rfl rfl ?_
          refine X.opS rfl rfl rfl rfl rfl ?_
          refine X.opS rfl rfl rfl rfl rfl ?_
          refine X.opw X.wN rfl (X.pickT (v := .bool true) rfl rfl) ?_
          refine X.opw X.wN rfl (X.move (v := .bool true) rfl) ?_
          refine X.opE (X.wG rfl rfl rfl) rfl (X.callE (alive_c _) Try.call13 rfl rfl) ?_
          rintro _ w21 ⟨rfl, hk21⟩
          have hk21' := hk21.size
          refine X.opw X.wN rfl (X.pickT (v := .bool _) rfl rfl) ?_
          refine X.opw X.wN rfl (X.assign (v := .bool _) rfl) ?_
          refine X.opsEnd ?_
          refine X.ret1 (v := (.bool _)) Try.func4 Try.results4 rfl ?_
          exact ⟨rfl, (((((((((((((hk1.trans hk2).trans hk3).trans hk4).trans hk5).trans hk6).trans hk7).trans hk8).trans hk11).trans hk12).trans hk13).trans hk16).trans hk18).trans hk21)⟩
        · have hT1 := n20 h58
          have hT2 := n20 h61
          rw [if_pos hT1] at hM16
          rw [if_pos hT2] at hM18
          refine X.opw X.wN rfl (X.pickF (v := .bool false) rfl rfl) ?_
          refine X.opw X.wN rfl (X.move (v := .bool false) rfl) ?_
          refine X.opw (X.wG rfl rfl rfl) rfl (X.move rfl) ?_
          refine X.opw (X.wG rfl rfl rfl) rfl (X.move rfl) ?_
          obtain ⟨A23, c23, rfl, hc23, hs23⟩ := (hM16.keep hk18).slF KB_flat 0 (fun _ _ => Nat.zero_le _)
          obtain ⟨A24, c24, rfl, hc24, hs24⟩ := hM18.slF KB_flat 0 (fun _ _ => Nat.zero_le _)
          refine X.opE (X.wG rfl rfl rfl) rfl (X.callE (begins_c _ hs23 hs24 (by omega)) Try.call16 rfl rfl) ?_
          rintro _ w22 ⟨rfl, hk22⟩
          have hk22' := hk22.size
          refine X.opw (X.wG rfl rfl rfl) rfl (X.move rfl) ?_
          refine X.opw (X.wG rfl rfl rfl) rfl (X.move rfl) ?_
          refine X.opE (X.wG rfl rfl rfl) rfl (X.callE (Same_c _ (hs17.keep ((hk16.trans hk18).trans hk22)) (hs19.keep (hk18.trans hk22)) (by omega) (by omega)) Try.call20 rfl rfl) ?_
          rintro _ w25 ⟨rfl, hk25⟩
          have hk25' := hk25.size
          refine X.opB (X.wG rfl rfl rfl) rfl rfl (X.eqB Try.underlying4 rfl rfl) (fun h70 => ?_) (fun h70 => ?_)
          · refine X.opw X.wN rfl (X.pickF (v := .bool true) rfl rfl) ?_
            refine X.opw X.wN rfl (X.move (v := .bool true) rfl) ?_
            refine X.opE (X.wG rfl rfl rfl) rfl (X.callE (alive_c _) Try.call13 rfl rfl) ?_
            rintro _ w26 ⟨rfl, hk26⟩
            have hk26' := hk26.size
            refine X.opw X.wN rfl (X.pickT (v := .bool _) rfl rfl) ?_
            refine X.opw X.wN rfl (X.assign (v := .bool _) rfl) ?_
            refine X.opsEnd ?_
            refine X.ret1 (v := (.bool _)) Try.func4 Try.results4 rfl ?_
            exact ⟨rfl, (((((((((((((((hk1.trans hk2).trans hk3).trans hk4).trans hk5).trans hk6).trans hk7).trans hk8).trans hk11).trans hk12).trans hk13).trans hk16).trans hk18).trans hk22).trans hk25).trans hk26)⟩
          · rw [tupB_beg hT1 hT2 (cutT_ok s3) (cutT_ok s4)] at h70; simp at h70
end Go.Proofs.Ytaclpphhidlgpaa
