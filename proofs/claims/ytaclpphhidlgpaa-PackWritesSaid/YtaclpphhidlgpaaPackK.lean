/- The walk of the law PackWrites. -/
import Derived.Test.YtaclpphhidlgpaaPackP
namespace Go.Proofs.Ytaclpphhidlgpaa
open Go Go.Proofs.Ytaclpphhidlgpaa.X
set_option linter.unusedVariables false
set_option linter.unusedSimpArgs false
-- f5 "pedigree/pedigreelaw03.PackWrites" params [33, 2, 25, 23, 2] results [4] -> [(ResultVar.tmp 10)] nfree 
set_option maxHeartbeats 4000000 in
set_option maxRecDepth 100000 in
theorem PackWrites_c (w : World) (x : Int) (g0 : (Lit.int .u64 x).wf = true) (i : Int) (hI : okI i) (A1 : Option Addr) (n1 c1 : Nat) (l1 : List UInt8) (hc1 : n1 ≤ c1) (s1 : Sl KB 0 w.heap.size w A1 n1 l1)
  (A3 : Option Addr) (n3 c3 : Nat) (l3 : List VAL) (hc3 : n3 ≤ c3) (s3 : Sl KV 0 w.heap.size w A3 n3 l3) (N : Int) (hN : okI N) :
    Ret Try.prog 5 #[.int .u64 x, .int .i64 i, .slice A1 n1 c1, .slice A3 n3 c3, .int .i64 N] w fun r w' => r = .bool true ∧ Keep w w' := by
  obtain ⟨gx0, gx1⟩ := u64_ok g0
  refine X.enter Try.func5 rfl Try.ntmps5 rfl ?_
  refine X.seq ?_
  refine X.region ?_
  refine X.opw X.wN rfl (X.assign rfl) ?_
  refine X.opsEnd ?_
  refine X.seq ?_
  refine X.region ?_
  refine X.opw X.wN rfl (X.move (v := .slice _ _ _) rfl) ?_
  refine X.opE X.wN rfl (X.callE (cut_c _ s3 (by omega) (by omega)) Try.call10 rfl rfl) ?_
  rintro v1 w1 ⟨hM1, hk1⟩
  have hk1' := hk1.size
  refine X.opw X.wN rfl (X.move (v := .slice _ _ _) rfl) ?_
  refine X.opE X.wN rfl (X.callE (short_c _ (s1.keep hk1) (by omega)) Try.call15 rfl rfl) ?_
  rintro _ w2 ⟨m2, rfl, hmc2, hmt2, hs2, hk2⟩
  have hk2' := hk2.size
  refine X.opw X.wN rfl (X.assign rfl) ?_
  refine X.opw X.wN rfl (X.assign (v := .slice _ _ _) rfl) ?_
  refine X.opsEnd ?_
  refine X.seq ?_
  refine X.region ?_
  refine X.opw X.wN rfl (X.move rfl) ?_
  have q4 := (hM1.keep hk2).slF KV_flat 0 (fun _ _ => Nat.zero_le _)
  obtain ⟨A4, c4, rfl, hc4, hs4⟩ := q4
  refine X.opE X.wN rfl (X.callE (Tuple_c _ hs4 (by omega)) Try.call19 rfl rfl) ?_
  rintro _ w3 ⟨v3, rfl, hM3, hk3⟩
  have hk3' := hk3.size
  refine X.opw X.wN rfl (X.move rfl) ?_
  refine X.opw X.wN rfl (X.extr rfl rfl) ?_
  refine X.opw X.wN rfl (X.extr rfl rfl) ?_
  refine X.opw X.wN rfl (X.assign rfl) ?_
  refine X.opw X.wN rfl (X.assign (v := .int .i64 _) rfl) ?_
  refine X.opsEnd ?_
  refine X.seq ?_
  refine X.region ?_
  refine X.opw X.wN rfl (X.move rfl) ?_
  refine X.opE X.wN rfl (X.callE (RTuple_c _ (hs4.keep hk3) (by omega)) Try.call21 rfl rfl) ?_
  rintro _ w5 ⟨v5, rfl, hM5, hk5⟩
  have hk5' := hk5.size
  refine X.opw X.wN rfl (X.move rfl) ?_
  refine X.opw X.wN rfl (X.extr rfl rfl) ?_
  refine X.opw X.wN rfl (X.extr rfl rfl) ?_
  refine X.opw X.wN rfl (X.assign rfl) ?_
  refine X.opw X.wN rfl (X.assign (v := .int .i64 _) rfl) ?_
  refine X.opsEnd ?_
  refine X.seq ?_
  refine X.region ?_
  refine X.opw X.wN rfl (X.move rfl) ?_
  refine X.opw X.wN rfl (X.move (v := .int .i64 _) rfl) ?_
  refine X.opw X.wN rfl (X.buildB (cs := #[.slice A4 (cutT l3).length c4, .int .i64 N]) rfl (by kernel_rfl)) ?_
  refine X.opE X.wN rfl (X.callE (Counted_c N hN _ (hs4.keep (hk3.trans hk5)) (by omega)) Try.call22 rfl rfl) ?_
  rintro _ w6 ⟨v6, rfl, hM6, hk6⟩
  have hk6' := hk6.size
  refine X.opw X.wN rfl (X.move rfl) ?_
  refine X.opw X.wN rfl (X.extr rfl rfl) ?_
  refine X.opw X.wN rfl (X.extr rfl rfl) ?_
  refine X.opw X.wN rfl (X.assign rfl) ?_
  refine X.opw X.wN rfl (X.assign (v := .int .i64 _) rfl) ?_
  refine X.opsEnd ?_
  refine X.seq ?_
  refine X.region ?_
  refine X.opw X.wN rfl (X.move rfl) ?_
  refine X.opw X.wN rfl (X.move (v := .int .i64 _) rfl) ?_
  refine X.opw X.wN rfl (X.buildB (cs := #[.slice A4 (cutT l3).length c4, .int .i64 N]) rfl (by kernel_rfl)) ?_
  refine X.opE X.wN rfl (X.callE (RCounted_c N hN _ (hs4.keep ((hk3.trans hk5).trans hk6)) (by omega)) Try.call23 rfl rfl) ?_
  rintro _ w7 ⟨v7, rfl, hM7, hk7⟩
  have hk7' := hk7.size
  refine X.opw X.wN rfl (X.move rfl) ?_
  refine X.opw X.wN rfl (X.extr rfl rfl) ?_
  refine X.opw X.wN rfl (X.extr rfl rfl) ?_
  refine X.opw X.wN rfl (X.assign rfl) ?_
  refine X.opw X.wN rfl (X.assign (v := .int .i64 _) rfl) ?_
  refine X.opsEnd ?_
  refine X.seq ?_
  refine X.region ?_
  refine X.opw X.wN rfl (X.move rfl) ?_
  refine X.opE X.wN rfl (X.callE (Key_c _ (hs4.keep (((hk3.trans hk5).trans hk6).trans hk7)) (by omega)) Try.call11 rfl rfl) ?_
  rintro _ w8 ⟨v8, rfl, hM8, hk8⟩
  have hk8' := hk8.size
  refine X.opw X.wN rfl (X.move rfl) ?_
  refine X.opw X.wN rfl (X.extr rfl rfl) ?_
  refine X.opw X.wN rfl (X.extr rfl rfl) ?_
  refine X.opw X.wN rfl (X.assign rfl) ?_
  refine X.opw X.wN rfl (X.assign (v := .int .i64 _) rfl) ?_
  refine X.opsEnd ?_
  refine X.seq ?_
  refine X.region ?_
  refine X.opw X.wN rfl (X.move rfl) ?_
  refine X.opE X.wN rfl (X.callE (RKey_c _ (hs4.keep ((((hk3.trans hk5).trans hk6).trans hk7).trans hk8)) (by omega)) Try.call24 rfl rfl) ?_
  rintro _ w9 ⟨v9, rfl, hM9, hk9⟩
  have hk9' := hk9.size
  refine X.opw X.wN rfl (X.move rfl) ?_
  refine X.opw X.wN rfl (X.extr rfl rfl) ?_
  refine X.opw X.wN rfl (X.extr rfl rfl) ?_
  refine X.opw X.wN rfl (X.assign rfl) ?_
  refine X.opw X.wN rfl (X.assign (v := .int .i64 _) rfl) ?_
  refine X.opsEnd ?_
  refine X.seq ?_
  refine X.regionD (fun _ => False) 64 (by kernel_rfl) (by kernel_rfl) (fun w10 hk10 hz10 => ?_)
  refine X.dTake 0 rfl (by kernel_rfl) (by kernel_rfl) (by kernel_rfl) (X.dwN rfl) (fun w' hk' => X.move (v := .int .u64 _) rfl) ?_
  refine X.dTake 3 rfl (by kernel_rfl) (by kernel_rfl) (by kernel_rfl) (X.dwN rfl) (fun w' hk' => X.move (v := .int .u64 _) rfl) ?_
  refine X.dE (i := 1) (by kernel_rfl) rfl (X.dwN rfl) (X.callE (Num_c _ (by omega) (by omega) _) Try.call17 rfl rfl) (by rintro v11 w11 ⟨hM11, hk11⟩ _; exact hk11.mono (fun _ _ h => h.elim)) ?_
  rintro v11 w11 ⟨hM11, hk11⟩
  have hk11' := hk11.size
  have q12 := hM11.slF KB_flat 0 (fun _ _ => Nat.zero_le _)
  obtain ⟨A12, c12, rfl, hc12, hs12⟩ := q12
  refine X.dTake 2 rfl (by kernel_rfl) (by kernel_rfl) (by kernel_rfl) (X.dwN rfl) (fun w' hk' => X.str Try.underlying25 Try.underlying5 Try.underlying9 rfl KB_is rfl (hs12.keep hk')) ?_
  refine X.dE (i := 4) (by kernel_rfl) rfl (X.dwN rfl) (X.callE (RNum_c _ (by omega) (by omega) _) Try.call25 rfl rfl) (by rintro v13 w13 ⟨hM13, hk13⟩ _; exact hk13.mono (fun _ _ h => h.elim)) ?_
  rintro v13 w13 ⟨hM13, hk13⟩
  have hk13' := hk13.size
  have q14 := hM13.slF KB_flat 0 (fun _ _ => Nat.zero_le _)
  obtain ⟨A14, c14, rfl, hc14, hs14⟩ := q14
  refine X.dTake 5 rfl (by kernel_rfl) (by kernel_rfl) (by kernel_rfl) (X.dwN rfl) (fun w' hk' => X.str Try.underlying25 Try.underlying5 Try.underlying9 rfl KB_is rfl (hs14.keep hk')) ?_
  refine X.dTake 6 rfl (by kernel_rfl) (by kernel_rfl) (by kernel_rfl) (X.dwN rfl) (fun w' hk' => X.eqD rfl rfl) ?_
  refine X.dTake 7 rfl (by kernel_rfl) (by kernel_rfl) (by kernel_rfl) (X.dwN rfl) (fun w' hk' => X.move (v := .bool _) rfl) ?_
  refine X.dFork 68 rfl (fun h68 => ?_) (fun h68 => ?_)
  · refine X.dTake 8 rfl (by kernel_rfl) (by kernel_rfl) (by kernel_rfl) (X.dwG rfl rfl rfl) (fun w' hk' => X.move (v := .int .i64 _) rfl) ?_
    refine X.dTake 11 rfl (by kernel_rfl) (by kernel_rfl) (by kernel_rfl) (X.dwG rfl rfl rfl) (fun w' hk' => X.move (v := .int .i64 _) rfl) ?_
    refine X.dE (i := 9) (by kernel_rfl) rfl (X.dwG rfl rfl rfl) (X.callE (Int_c _ hI _) Try.call26 rfl rfl) (by rintro v15 w15 ⟨hM15, hk15⟩ _; exact hk15.mono (fun _ _ h => h.elim)) ?_
    rintro v15 w15 ⟨hM15, hk15⟩
    have hk15' := hk15.size
    have q16 := hM15.slF KB_flat 0 (fun _ _ => Nat.zero_le _)
    obtain ⟨A16, c16, rfl, hc16, hs16⟩ := q16
    refine X.dTake 10 rfl (by kernel_rfl) (by kernel_rfl) (by kernel_rfl) (X.dwG rfl rfl rfl) (fun w' hk' => X.str Try.underlying25 Try.underlying5 Try.underlying9 rfl KB_is rfl (hs16.keep hk')) ?_
    refine X.dE (i := 12) (by kernel_rfl) rfl (X.dwG rfl rfl rfl) (X.callE (RInt_c _ hI _) Try.call27 rfl rfl) (by rintro v17 w17 ⟨hM17, hk17⟩ _; exact hk17.mono (fun _ _ h => h.elim)) ?_
    rintro v17 w17 ⟨hM17, hk17⟩
    have hk17' := hk17.size
    have q18 := hM17.slF KB_flat 0 (fun _ _ => Nat.zero_le _)
    obtain ⟨A18, c18, rfl, hc18, hs18⟩ := q18
    refine X.dTake 13 rfl (by kernel_rfl) (by kernel_rfl) (by kernel_rfl) (X.dwG rfl rfl rfl) (fun w' hk' => X.str Try.underlying25 Try.underlying5 Try.underlying9 rfl KB_is rfl (hs18.keep hk')) ?_
    refine X.dTake 14 rfl (by kernel_rfl) (by kernel_rfl) (by kernel_rfl) (X.dwG rfl rfl rfl) (fun w' hk' => X.eqD rfl rfl) ?_
    refine X.dTake 15 rfl (by kernel_rfl) (by kernel_rfl) (by kernel_rfl) (X.dwN rfl) (fun w' hk' => X.pickT (v := .bool _) rfl rfl) ?_
    refine X.dTake 16 rfl (by kernel_rfl) (by kernel_rfl) (by kernel_rfl) (X.dwN rfl) (fun w' hk' => X.move (v := .bool _) rfl) ?_
    refine X.dFork 77 rfl (fun h77 => ?_) (fun h77 => ?_)
    · refine X.dTake 17 rfl (by kernel_rfl) (by kernel_rfl) (by kernel_rfl) (X.dwG rfl rfl rfl) (fun w' hk' => X.move (v := .slice _ _ _) rfl) ?_
      refine X.dTake 20 rfl (by kernel_rfl) (by kernel_rfl) (by kernel_rfl) (X.dwG rfl rfl rfl) (fun w' hk' => X.move (v := .slice _ _ _) rfl) ?_
      refine X.dE (i := 18) (by kernel_rfl) rfl (X.dwG rfl rfl rfl) (X.callE (Text_c _ (hs2.keep ((((((((((hk3.trans hk5).trans hk6).trans hk7).trans hk8).trans hk9).trans hk10).trans hk11).trans hk13).trans hk15).trans hk17)) (by omega)) Try.call18 rfl rfl) (by rintro v19 w19 ⟨hM19, hk19⟩ _; exact hk19.mono (fun _ _ h => h.elim)) ?_
      rintro v19 w19 ⟨hM19, hk19⟩
      have hk19' := hk19.size
      have q20 := hM19.slF KB_flat 0 (fun _ _ => Nat.zero_le _)
      obtain ⟨A20, c20, rfl, hc20, hs20⟩ := q20
      refine X.dTake 19 rfl (by kernel_rfl) (by kernel_rfl) (by kernel_rfl) (X.dwG rfl rfl rfl) (fun w' hk' => X.str Try.underlying25 Try.underlying5 Try.underlying9 rfl KB_is rfl (hs20.keep hk')) ?_
      refine X.dE (i := 21) (by kernel_rfl) rfl (X.dwG rfl rfl rfl) (X.callE (RText_c _ (hs2.keep (((((((((((hk3.trans hk5).trans hk6).trans hk7).trans hk8).trans hk9).trans hk10).trans hk11).trans hk13).trans hk15).trans hk17).trans hk19)) (by omega)) Try.call28 rfl rfl) (by rintro v21 w21 ⟨hM21, hk21⟩ _; exact hk21.mono (fun _ _ h => h.elim)) ?_
      rintro v21 w21 ⟨hM21, hk21⟩
      have hk21' := hk21.size
      have q22 := hM21.slF KB_flat 0 (fun _ _ => Nat.zero_le _)
      obtain ⟨A22, c22, rfl, hc22, hs22⟩ := q22
      refine X.dTake 22 rfl (by kernel_rfl) (by kernel_rfl) (by kernel_rfl) (X.dwG rfl rfl rfl) (fun w' hk' => X.str Try.underlying25 Try.underlying5 Try.underlying9 rfl KB_is rfl (hs22.keep hk')) ?_
      refine X.dTake 23 rfl (by kernel_rfl) (by kernel_rfl) (by kernel_rfl) (X.dwG rfl rfl rfl) (fun w' hk' => X.eqD rfl rfl) ?_
      refine X.dTake 24 rfl (by kernel_rfl) (by kernel_rfl) (by kernel_rfl) (X.dwN rfl) (fun w' hk' => X.pickT (v := .bool _) rfl rfl) ?_
      refine X.dTake 25 rfl (by kernel_rfl) (by kernel_rfl) (by kernel_rfl) (X.dwN rfl) (fun w' hk' => X.move (v := .bool _) rfl) ?_
      refine X.dFork 86 rfl (fun h86 => ?_) (fun h86 => ?_)
      · refine X.dTake 26 rfl (by kernel_rfl) (by kernel_rfl) (by kernel_rfl) (X.dwG rfl rfl rfl) (fun w' hk' => X.move rfl) ?_
        have q23 := (hM3.keep (((((((((((hk5.trans hk6).trans hk7).trans hk8).trans hk9).trans hk10).trans hk11).trans hk13).trans hk15).trans hk17).trans hk19).trans hk21)).slF KB_flat 0 (fun _ _ => Nat.zero_le _)
        obtain ⟨A23, c23, rfl, hc23, hs23⟩ := q23
        refine X.dTake 27 rfl (by kernel_rfl) (by kernel_rfl) (by kernel_rfl) (X.dwG rfl rfl rfl) (fun w' hk' => X.str Try.underlying25 Try.underlying5 Try.underlying9 rfl KB_is rfl (hs23.keep hk')) ?_
        refine X.dTake 28 rfl (by kernel_rfl) (by kernel_rfl) (by kernel_rfl) (X.dwG rfl rfl rfl) (fun w' hk' => X.move rfl) ?_
        have q24 := (hM5.keep ((((((((((hk6.trans hk7).trans hk8).trans hk9).trans hk10).trans hk11).trans hk13).trans hk15).trans hk17).trans hk19).trans hk21)).slF KB_flat 0 (fun _ _ => Nat.zero_le _)
        obtain ⟨A24, c24, rfl, hc24, hs24⟩ := q24
        refine X.dTake 29 rfl (by kernel_rfl) (by kernel_rfl) (by kernel_rfl) (X.dwG rfl rfl rfl) (fun w' hk' => X.str Try.underlying25 Try.underlying5 Try.underlying9 rfl KB_is rfl (hs24.keep hk')) ?_
        refine X.dTake 30 rfl (by kernel_rfl) (by kernel_rfl) (by kernel_rfl) (X.dwG rfl rfl rfl) (fun w' hk' => X.eqD rfl rfl) ?_
        refine X.dTake 31 rfl (by kernel_rfl) (by kernel_rfl) (by kernel_rfl) (X.dwN rfl) (fun w' hk' => X.pickT (v := .bool _) rfl rfl) ?_
        refine X.dTake 32 rfl (by kernel_rfl) (by kernel_rfl) (by kernel_rfl) (X.dwN rfl) (fun w' hk' => X.move (v := .bool _) rfl) ?_
        refine X.dFork 93 rfl (fun h93 => ?_) (fun h93 => ?_)
        · refine X.dTake 33 rfl (by kernel_rfl) (by kernel_rfl) (by kernel_rfl) (X.dwG rfl rfl rfl) (fun w' hk' => X.move (v := .int .i64 _) rfl) ?_
          refine X.dTake 34 rfl (by kernel_rfl) (by kernel_rfl) (by kernel_rfl) (X.dwG rfl rfl rfl) (fun w' hk' => X.move (v := .int .i64 _) rfl) ?_
          refine X.dTake 35 rfl (by kernel_rfl) (by kernel_rfl) (by kernel_rfl) (X.dwG rfl rfl rfl) (fun w' hk' => X.eqI rfl rfl) ?_
          refine X.dTake 36 rfl (by kernel_rfl) (by kernel_rfl) (by kernel_rfl) (X.dwN rfl) (fun w' hk' => X.pickT (v := .bool _) rfl rfl) ?_
          refine X.dTake 37 rfl (by kernel_rfl) (by kernel_rfl) (by kernel_rfl) (X.dwN rfl) (fun w' hk' => X.move (v := .bool _) rfl) ?_
          refine X.dFork 98 rfl (fun h98 => ?_) (fun h98 => ?_)
          · refine X.dTake 38 rfl (by kernel_rfl) (by kernel_rfl) (by kernel_rfl) (X.dwG rfl rfl rfl) (fun w' hk' => X.move rfl) ?_
            have q25 := (hM6.keep (((((((((hk7.trans hk8).trans hk9).trans hk10).trans hk11).trans hk13).trans hk15).trans hk17).trans hk19).trans hk21)).slF KB_flat 0 (fun _ _ => Nat.zero_le _)
            obtain ⟨A25, c25, rfl, hc25, hs25⟩ := q25
            refine X.dTake 39 rfl (by kernel_rfl) (by kernel_rfl) (by kernel_rfl) (X.dwG rfl rfl rfl) (fun w' hk' => X.str Try.underlying25 Try.underlying5 Try.underlying9 rfl KB_is rfl (hs25.keep hk')) ?_
            refine X.dTake 40 rfl (by kernel_rfl) (by kernel_rfl) (by kernel_rfl) (X.dwG rfl rfl rfl) (fun w' hk' => X.move rfl) ?_
            have q26 := (hM7.keep ((((((((hk8.trans hk9).trans hk10).trans hk11).trans hk13).trans hk15).trans hk17).trans hk19).trans hk21)).slF KB_flat 0 (fun _ _ => Nat.zero_le _)
            obtain ⟨A26, c26, rfl, hc26, hs26⟩ := q26
            refine X.dTake 41 rfl (by kernel_rfl) (by kernel_rfl) (by kernel_rfl) (X.dwG rfl rfl rfl) (fun w' hk' => X.str Try.underlying25 Try.underlying5 Try.underlying9 rfl KB_is rfl (hs26.keep hk')) ?_
            refine X.dTake 42 rfl (by kernel_rfl) (by kernel_rfl) (by kernel_rfl) (X.dwG rfl rfl rfl) (fun w' hk' => X.eqD rfl rfl) ?_
            refine X.dTake 43 rfl (by kernel_rfl) (by kernel_rfl) (by kernel_rfl) (X.dwN rfl) (fun w' hk' => X.pickT (v := .bool _) rfl rfl) ?_
            refine X.dTake 44 rfl (by kernel_rfl) (by kernel_rfl) (by kernel_rfl) (X.dwN rfl) (fun w' hk' => X.move (v := .bool _) rfl) ?_
            refine X.dFork 105 rfl (fun h105 => ?_) (fun h105 => ?_)
            · refine X.dTake 45 rfl (by kernel_rfl) (by kernel_rfl) (by kernel_rfl) (X.dwG rfl rfl rfl) (fun w' hk' => X.move (v := .int .i64 _) rfl) ?_
              refine X.dTake 46 rfl (by kernel_rfl) (by kernel_rfl) (by kernel_rfl) (X.dwG rfl rfl rfl) (fun w' hk' => X.move (v := .int .i64 _) rfl) ?_
              refine X.dTake 47 rfl (by kernel_rfl) (by kernel_rfl) (by kernel_rfl) (X.dwG rfl rfl rfl) (fun w' hk' => X.eqI rfl rfl) ?_
              refine X.dTake 48 rfl (by kernel_rfl) (by kernel_rfl) (by kernel_rfl) (X.dwN rfl) (fun w' hk' => X.pickT (v := .bool _) rfl rfl) ?_
              refine X.dTake 49 rfl (by kernel_rfl) (by kernel_rfl) (by kernel_rfl) (X.dwN rfl) (fun w' hk' => X.move (v := .bool _) rfl) ?_
              refine X.dFork 110 rfl (fun h110 => ?_) (fun h110 => ?_)
              · refine X.dTake 50 rfl (by kernel_rfl) (by kernel_rfl) (by kernel_rfl) (X.dwG rfl rfl rfl) (fun w' hk' => X.move rfl) ?_
                have q27 := (hM8.keep (((((((hk9.trans hk10).trans hk11).trans hk13).trans hk15).trans hk17).trans hk19).trans hk21)).slF KB_flat 0 (fun _ _ => Nat.zero_le _)
                obtain ⟨A27, c27, rfl, hc27, hs27⟩ := q27
                refine X.dTake 51 rfl (by kernel_rfl) (by kernel_rfl) (by kernel_rfl) (X.dwG rfl rfl rfl) (fun w' hk' => X.str Try.underlying25 Try.underlying5 Try.underlying9 rfl KB_is rfl (hs27.keep hk')) ?_
                refine X.dTake 52 rfl (by kernel_rfl) (by kernel_rfl) (by kernel_rfl) (X.dwG rfl rfl rfl) (fun w' hk' => X.move rfl) ?_
                have q28 := (hM9.keep ((((((hk10.trans hk11).trans hk13).trans hk15).trans hk17).trans hk19).trans hk21)).slF KB_flat 0 (fun _ _ => Nat.zero_le _)
                obtain ⟨A28, c28, rfl, hc28, hs28⟩ := q28
                refine X.dTake 53 rfl (by kernel_rfl) (by kernel_rfl) (by kernel_rfl) (X.dwG rfl rfl rfl) (fun w' hk' => X.str Try.underlying25 Try.underlying5 Try.underlying9 rfl KB_is rfl (hs28.keep hk')) ?_
                refine X.dTake 54 rfl (by kernel_rfl) (by kernel_rfl) (by kernel_rfl) (X.dwG rfl rfl rfl) (fun w' hk' => X.eqD rfl rfl) ?_
                refine X.dTake 55 rfl (by kernel_rfl) (by kernel_rfl) (by kernel_rfl) (X.dwN rfl) (fun w' hk' => X.pickT (v := .bool _) rfl rfl) ?_
                refine X.dTake 56 rfl (by kernel_rfl) (by kernel_rfl) (by kernel_rfl) (X.dwN rfl) (fun w' hk' => X.move (v := .bool _) rfl) ?_
                refine X.dFork 117 rfl (fun h117 => ?_) (fun h117 => ?_)
                · refine X.dTake 57 rfl (by kernel_rfl) (by kernel_rfl) (by kernel_rfl) (X.dwG rfl rfl rfl) (fun w' hk' => X.move (v := .int .i64 _) rfl) ?_
                  refine X.dTake 58 rfl (by kernel_rfl) (by kernel_rfl) (by kernel_rfl) (X.dwG rfl rfl rfl) (fun w' hk' => X.move (v := .int .i64 _) rfl) ?_
                  refine X.dTake 59 rfl (by kernel_rfl) (by kernel_rfl) (by kernel_rfl) (X.dwG rfl rfl rfl) (fun w' hk' => X.eqI rfl rfl) ?_
                  refine X.dTake 60 rfl (by kernel_rfl) (by kernel_rfl) (by kernel_rfl) (X.dwN rfl) (fun w' hk' => X.pickT (v := .bool _) rfl rfl) ?_
                  refine X.dTake 61 rfl (by kernel_rfl) (by kernel_rfl) (by kernel_rfl) (X.dwN rfl) (fun w' hk' => X.move (v := .bool _) rfl) ?_
                  refine X.dFork 122 rfl (fun h122 => ?_) (fun h122 => ?_)
                  · refine X.dE (i := 62) (by kernel_rfl) rfl (X.dwG rfl rfl rfl) (X.callE (alive_c _) Try.call13 rfl rfl) (by rintro _ w29 ⟨rfl, hk29⟩ _; exact hk29.mono (fun _ _ h => h.elim)) ?_
                    rintro _ w29 ⟨rfl, hk29⟩
                    have hk29' := hk29.size
                    refine X.dTake 63 rfl (by kernel_rfl) (by kernel_rfl) (by kernel_rfl) (X.dwN rfl) (fun w' hk' => X.pickT (v := .bool _) rfl rfl) ?_
                    refine X.dStep (i := 64) (by kernel_rfl) rfl (X.dwN rfl) (X.assign (v := .bool _) rfl) (fun h => absurd h (by decide)) ?_
                    refine X.dEnd (by kernel_rfl) ?_
                    refine X.ret1 (v := (.bool _)) Try.func5 Try.results5 rfl ?_
                    exact ⟨rfl, (((((((((((((((hk1.trans hk2).trans hk3).trans hk5).trans hk6).trans hk7).trans hk8).trans hk9).trans hk10).trans hk11).trans hk13).trans hk15).trans hk17).trans hk19).trans hk21).trans hk29)⟩
                  · simp at h122
                · simp at h117
              · simp at h110
            · simp at h105
          · simp at h98
        · simp at h93
      · simp at h86
    · simp at h77
  · simp at h68
end Go.Proofs.Ytaclpphhidlgpaa
