/- The walk of the law CrcSums. -/
import Derived.Test.YtleaidgngkfjbaaDoorCrcH
namespace Go.Proofs.YtleaidgngkfjbaaDoor
open Go Go.Proofs.YtleaidgngkfjbaaDoor.X
set_option linter.unusedVariables false
set_option linter.unusedSimpArgs false
-- f3 "pedigree/pedigreelaw04.CrcSums" params [22] results [4] -> [(ResultVar.tmp 2)] nfree 0 ntmps 48 names [
set_option maxHeartbeats 4000000 in
set_option maxRecDepth 100000 in
theorem CrcSums_c (w : World) (hT : TabOk w) (A1 : Option Addr) (n1 c1 : Nat) (l1 : List UInt8) (hc1 : n1 ≤ c1) (s1 : Sl KB 0 w.heap.size w A1 n1 l1) :
    Ret Tryd.prog 3 #[.slice A1 n1 c1] w fun r w' => r = .bool true ∧ Keep w w' := by
  refine X.enter Tryd.func3 rfl Tryd.ntmps3 rfl ?_
  refine X.seq ?_
  refine X.region ?_
  refine X.opw X.wN rfl (X.assign rfl) ?_
  refine X.opsEnd ?_
  refine X.seq ?_
  refine X.region ?_
  refine X.opw X.wN rfl (X.move (v := .slice _ _ _) rfl) ?_
  refine X.opE X.wN rfl (X.callE (cut_c _ s1 (by omega)) Tryd.call10 rfl rfl) ?_
  rintro _ w1 ⟨m1, rfl, hmc1, hmt1, hs1, hk1⟩
  have hk1' := hk1.size
  refine X.opw X.wN rfl (X.assign (v := .slice _ _ _) rfl) ?_
  refine X.opsEnd ?_
  refine X.seq ?_
  refine X.region ?_
  refine X.opw X.wN rfl (X.move (v := .slice _ _ _) rfl) ?_
  refine X.opE X.wN rfl (X.callE ((Open_c _ hs1 (by omega) (by (try simp only [List.length_append, List.length_cons, List.length_nil, List.length_take, List.length_drop, List.length_map, List.length_range]); omega) (hT.keep hk1)).mono fresh2) Tryd.call11 rfl rfl) ?_
  rintro _ w2 ⟨A2, c2, rfl, hc2, hs2, hM2, hk2⟩
  have hk2' := hk2.size
  refine X.opw X.wN rfl (X.move rfl) ?_
  refine X.opw X.wN rfl (X.extr rfl rfl) ?_
  refine X.opw X.wN rfl (X.extr rfl rfl) ?_
  refine X.opw X.wN rfl (X.assign rfl) ?_
  refine X.opw X.wN rfl (X.assign (v := .int .i64 _) rfl) ?_
  refine X.opsEnd ?_
  refine X.seq ?_
  refine X.region ?_
  refine X.opw X.wN rfl (X.move (v := .slice _ _ _) rfl) ?_
  refine X.opE X.wN rfl (X.callE ((ROpen_c _ (hs1.keep hk2) (by omega) (by (try simp only [List.length_append, List.length_cons, List.length_nil, List.length_take, List.length_drop, List.length_map, List.length_range]); omega)).mono fresh2) Tryd.call12 rfl rfl) ?_
  rintro _ w3 ⟨A3, c3, rfl, hc3, hs3, hM3, hk3⟩
  have hk3' := hk3.size
  refine X.opw X.wN rfl (X.move rfl) ?_
  refine X.opw X.wN rfl (X.extr rfl rfl) ?_
  refine X.opw X.wN rfl (X.extr rfl rfl) ?_
  refine X.opw X.wN rfl (X.assign rfl) ?_
  refine X.opw X.wN rfl (X.assign (v := .int .i64 _) rfl) ?_
  refine X.opsEnd ?_
  refine X.seq ?_
  refine X.regionD (fun _ => False) 29 (by kernel_rfl) (by kernel_rfl) (fun w4 hk4 hz4 => ?_)
  refine X.dTake 0 rfl (by kernel_rfl) (by kernel_rfl) (by kernel_rfl) (X.dwN rfl) (fun w' hk' => X.move (v := .slice _ _ _) rfl) ?_
  refine X.dTake 2 rfl (by kernel_rfl) (by kernel_rfl) (by kernel_rfl) (X.dwN rfl) (fun w' hk' => X.move (v := .slice _ _ _) rfl) ?_
  refine X.dE (i := 1) (by kernel_rfl) rfl (X.dwN rfl) (X.callE (Sum_c _ (hs1.keep ((hk2.trans hk3).trans hk4)) (hT.keep (((hk1.trans hk2).trans hk3).trans hk4))) Tryd.call13 rfl rfl) (by rintro _ w5 ⟨rfl, hk5⟩ _; exact hk5.mono (fun _ _ h => h.elim)) ?_
  rintro _ w5 ⟨rfl, hk5⟩
  have hk5' := hk5.size
  refine X.dE (i := 3) (by kernel_rfl) rfl (X.dwN rfl) (X.callE (RSum_c _ (hs1.keep (((hk2.trans hk3).trans hk4).trans hk5))) Tryd.call14 rfl rfl) (by rintro _ w6 ⟨rfl, hk6⟩ _; exact hk6.mono (fun _ _ h => h.elim)) ?_
  rintro _ w6 ⟨rfl, hk6⟩
  have hk6' := hk6.size
  refine X.dTake 4 rfl (by kernel_rfl) (by kernel_rfl) (by kernel_rfl) (X.dwN rfl) (fun w' hk' => X.eqI rfl rfl) ?_
  refine X.dTake 5 rfl (by kernel_rfl) (by kernel_rfl) (by kernel_rfl) (X.dwN rfl) (fun w' hk' => X.move (v := .bool _) rfl) ?_
  refine X.dFork 24 rfl (fun h24 => ?_) (fun h24 => ?_)
  · refine X.dTake 6 rfl (by kernel_rfl) (by kernel_rfl) (by kernel_rfl) (X.dwG rfl rfl rfl) (fun w' hk' => X.move (v := .slice _ _ _) rfl) ?_
    refine X.dTake 9 rfl (by kernel_rfl) (by kernel_rfl) (by kernel_rfl) (X.dwG rfl rfl rfl) (fun w' hk' => X.move (v := .slice _ _ _) rfl) ?_
    refine X.dE (i := 7) (by kernel_rfl) rfl (X.dwG rfl rfl rfl) (X.callE ((Seal_c _ (hs1.keep ((((hk2.trans hk3).trans hk4).trans hk5).trans hk6)) (by omega) (by omega) (by (try simp only [List.length_append, List.length_cons, List.length_nil, List.length_take, List.length_drop, List.length_map, List.length_range]); omega) (hT.keep (((((hk1.trans hk2).trans hk3).trans hk4).trans hk5).trans hk6))).mono freshB) Tryd.call15 rfl rfl) (by rintro _ w7 ⟨A7, c7, rfl, hc7, hs7, hM7, hk7⟩ _; exact hk7.mono (fun _ _ h => h.elim)) ?_
    rintro _ w7 ⟨A7, c7, rfl, hc7, hs7, hM7, hk7⟩
    have hk7' := hk7.size
    refine X.dTake 8 rfl (by kernel_rfl) (by kernel_rfl) (by kernel_rfl) (X.dwG rfl rfl rfl) (fun w' hk' => X.str Tryd.underlying22 Tryd.underlying5 Tryd.underlying9 rfl KB_is rfl (hs7.keep hk')) ?_
    refine X.dE (i := 10) (by kernel_rfl) rfl (X.dwG rfl rfl rfl) (X.callE ((RSeal_c _ (hs1.keep (((((hk2.trans hk3).trans hk4).trans hk5).trans hk6).trans hk7)) (by (try simp only [List.length_append, List.length_cons, List.length_nil, List.length_take, List.length_drop, List.length_map, List.length_range]); omega)).mono freshB) Tryd.call16 rfl rfl) (by rintro _ w8 ⟨A8, c8, rfl, hc8, hs8, hM8, hk8⟩ _; exact hk8.mono (fun _ _ h => h.elim)) ?_
    rintro _ w8 ⟨A8, c8, rfl, hc8, hs8, hM8, hk8⟩
    have hk8' := hk8.size
    refine X.dTake 11 rfl (by kernel_rfl) (by kernel_rfl) (by kernel_rfl) (X.dwG rfl rfl rfl) (fun w' hk' => X.str Tryd.underlying22 Tryd.underlying5 Tryd.underlying9 rfl KB_is rfl (hs8.keep hk')) ?_
    refine X.dTake 12 rfl (by kernel_rfl) (by kernel_rfl) (by kernel_rfl) (X.dwG rfl rfl rfl) (fun w' hk' => X.eqD rfl rfl) ?_
    refine X.dTake 13 rfl (by kernel_rfl) (by kernel_rfl) (by kernel_rfl) (X.dwN rfl) (fun w' hk' => X.pickT (v := .bool _) rfl rfl) ?_
    refine X.dTake 14 rfl (by kernel_rfl) (by kernel_rfl) (by kernel_rfl) (X.dwN rfl) (fun w' hk' => X.move (v := .bool _) rfl) ?_
    refine X.dFork 33 rfl (fun h33 => ?_) (fun h33 => ?_)
    · refine X.dTake 15 rfl (by kernel_rfl) (by kernel_rfl) (by kernel_rfl) (X.dwG rfl rfl rfl) (fun w' hk' => X.move rfl) ?_
      refine X.dTake 16 rfl (by kernel_rfl) (by kernel_rfl) (by kernel_rfl) (X.dwG rfl rfl rfl) (fun w' hk' => X.str Tryd.underlying22 Tryd.underlying5 Tryd.underlying9 rfl KB_is rfl (hs2.keep ((((((hk3.trans hk4).trans hk5).trans hk6).trans hk7).trans hk8).trans hk'))) ?_
      refine X.dTake 17 rfl (by kernel_rfl) (by kernel_rfl) (by kernel_rfl) (X.dwG rfl rfl rfl) (fun w' hk' => X.move rfl) ?_
      refine X.dTake 18 rfl (by kernel_rfl) (by kernel_rfl) (by kernel_rfl) (X.dwG rfl rfl rfl) (fun w' hk' => X.str Tryd.underlying22 Tryd.underlying5 Tryd.underlying9 rfl KB_is rfl (hs3.keep (((((hk4.trans hk5).trans hk6).trans hk7).trans hk8).trans hk'))) ?_
      refine X.dTake 19 rfl (by kernel_rfl) (by kernel_rfl) (by kernel_rfl) (X.dwG rfl rfl rfl) (fun w' hk' => X.eqD rfl rfl) ?_
      refine X.dTake 20 rfl (by kernel_rfl) (by kernel_rfl) (by kernel_rfl) (X.dwN rfl) (fun w' hk' => X.pickT (v := .bool _) rfl rfl) ?_
      refine X.dTake 21 rfl (by kernel_rfl) (by kernel_rfl) (by kernel_rfl) (X.dwN rfl) (fun w' hk' => X.move (v := .bool _) rfl) ?_
      refine X.dFork 40 rfl (fun h40 => ?_) (fun h40 => ?_)
      · refine X.dTake 22 rfl (by kernel_rfl) (by kernel_rfl) (by kernel_rfl) (X.dwG rfl rfl rfl) (fun w' hk' => X.move (v := .int .i64 _) rfl) ?_
        refine X.dTake 23 rfl (by kernel_rfl) (by kernel_rfl) (by kernel_rfl) (X.dwG rfl rfl rfl) (fun w' hk' => X.move (v := .int .i64 _) rfl) ?_
        refine X.dTake 24 rfl (by kernel_rfl) (by kernel_rfl) (by kernel_rfl) (X.dwG rfl rfl rfl) (fun w' hk' => X.eqI rfl rfl) ?_
        refine X.dTake 25 rfl (by kernel_rfl) (by kernel_rfl) (by kernel_rfl) (X.dwN rfl) (fun w' hk' => X.pickT (v := .bool _) rfl rfl) ?_
        refine X.dTake 26 rfl (by kernel_rfl) (by kernel_rfl) (by kernel_rfl) (X.dwN rfl) (fun w' hk' => X.move (v := .bool _) rfl) ?_
        refine X.dFork 45 rfl (fun h45 => ?_) (fun h45 => ?_)
        · refine X.dE (i := 27) (by kernel_rfl) rfl (X.dwG rfl rfl rfl) (X.callE (awake_c _ (hT.keep (((((((hk1.trans hk2).trans hk3).trans hk4).trans hk5).trans hk6).trans hk7).trans hk8))) Tryd.call17 rfl rfl) (by rintro _ w9 ⟨rfl, hk9⟩ _; exact hk9.mono (fun _ _ h => h.elim)) ?_
          rintro _ w9 ⟨rfl, hk9⟩
          have hk9' := hk9.size
          refine X.dTake 28 rfl (by kernel_rfl) (by kernel_rfl) (by kernel_rfl) (X.dwN rfl) (fun w' hk' => X.pickT (v := .bool _) rfl rfl) ?_
          refine X.dStep (i := 29) (by kernel_rfl) rfl (X.dwN rfl) (X.assign (v := .bool _) rfl) (fun h => absurd h (by decide)) ?_
          refine X.dEnd (by kernel_rfl) ?_
          refine X.ret1 (v := (.bool _)) Tryd.func3 Tryd.results3 rfl ?_
          exact ⟨rfl, ((((((((hk1.trans hk2).trans hk3).trans hk4).trans hk5).trans hk6).trans hk7).trans hk8).trans hk9)⟩
        · simp at h45
      · simp at h40
    · simp at h33
  · simp at h24
end Go.Proofs.YtleaidgngkfjbaaDoor
