/- The walk of the law PackKeys. -/
import Derived.Test.YtaclpphhidlgpaaPackT
namespace Go.Proofs.Ytaclpphhidlgpaa
open Go Go.Proofs.Ytaclpphhidlgpaa.X
set_option linter.unusedVariables false
set_option linter.unusedSimpArgs false
-- f6 "pedigree/pedigreelaw03.PackKeys" params [25] results [4] -> [(ResultVar.tmp 2)] nfree 0 ntmps 30 names 
set_option maxHeartbeats 4000000 in
set_option maxRecDepth 100000 in
theorem PackKeys_c (w : World) (A1 : Option Addr) (n1 c1 : Nat) (l1 : List UInt8) (hc1 : n1 ≤ c1) (s1 : Sl KB 0 w.heap.size w A1 n1 l1) :
    Ret Try.prog 6 #[.slice A1 n1 c1] w fun r w' => r = .bool true ∧ Keep w w' := by
  refine X.enter Try.func6 rfl Try.ntmps6 rfl ?_
  refine X.seq ?_
  refine X.region ?_
  refine X.opw X.wN rfl (X.assign rfl) ?_
  refine X.opsEnd ?_
  refine X.seq ?_
  refine X.region ?_
  refine X.opw X.wN rfl (X.move (v := .slice _ _ _) rfl) ?_
  refine X.opE X.wN rfl (X.callE (short_c _ s1 (by omega)) Try.call15 rfl rfl) ?_
  rintro _ w1 ⟨m1, rfl, hmc1, hmt1, hs1, hk1⟩
  have hk1' := hk1.size
  refine X.opw X.wN rfl (X.assign (v := .slice _ _ _) rfl) ?_
  refine X.opsEnd ?_
  refine X.seq ?_
  refine X.region ?_
  refine X.opw X.wN rfl (X.move (v := .slice _ _ _) rfl) ?_
  refine X.opE X.wN rfl (X.callE (FromKey_c _ (hs1.wide (Nat.le_refl _) (by omega)) (by omega) (by omega)) Try.call29 rfl rfl) ?_
  rintro _ w2 ⟨v2, rfl, hM2, hk2⟩
  have hk2' := hk2.size
  refine X.opw X.wN rfl (X.move rfl) ?_
  refine X.opw X.wN rfl (X.extr rfl rfl) ?_
  refine X.opw X.wN rfl (X.extr rfl rfl) ?_
  refine X.opw X.wN rfl (X.assign rfl) ?_
  refine X.opw X.wN rfl (X.assign (v := .int .i64 _) rfl) ?_
  refine X.opsEnd ?_
  refine X.seq ?_
  refine X.region ?_
  refine X.opw X.wN rfl (X.move (v := .slice _ _ _) rfl) ?_
  refine X.opE X.wN rfl (X.callE (RFromKey_c _ (hs1.keep hk2) (by omega) (by omega)) Try.call30 rfl rfl) ?_
  rintro _ w3 ⟨v3, rfl, hM3, hk3⟩
  have hk3' := hk3.size
  refine X.opw X.wN rfl (X.move rfl) ?_
  refine X.opw X.wN rfl (X.extr rfl rfl) ?_
  refine X.opw X.wN rfl (X.extr rfl rfl) ?_
  refine X.opw X.wN rfl (X.assign rfl) ?_
  refine X.opw X.wN rfl (X.assign (v := .int .i64 _) rfl) ?_
  refine X.opsEnd ?_
  refine X.seq ?_
  refine X.region ?_
  refine X.opw X.wN rfl (X.move rfl) ?_
  refine X.opw X.wN rfl (X.move rfl) ?_
  have q5 := (hM2.keep hk3).slF KV_flat 0 (fun _ _ => Nat.zero_le _)
  obtain ⟨A5, c5, rfl, hc5, hs5⟩ := q5
  have q6 := hM3.slF KV_flat 0 (fun _ _ => Nat.zero_le _)
  obtain ⟨A6, c6, rfl, hc6, hs6⟩ := q6
  refine X.opE X.wN rfl (X.callE (Same_c _ hs5 hs6 (by omega) (by omega)) Try.call20 rfl rfl) ?_
  rintro _ w4 ⟨rfl, hk4⟩
  have hk4' := hk4.size
  refine X.opw X.wN rfl (X.move (v := .bool _) rfl) ?_
  refine X.forkO 22 rfl (fun h22 => ?_) (fun h22 => ?_)
  · refine X.opw (X.wG rfl rfl rfl) rfl (X.move (v := .int .i64 _) rfl) ?_
    refine X.opw (X.wG rfl rfl rfl) rfl (X.move (v := .int .i64 _) rfl) ?_
    refine X.opP (X.wG rfl rfl rfl) rfl rfl (X.eqI rfl rfl) (fun h25 => ?_) (fun h25 => ?_)
    · refine X.opw X.wN rfl (X.pickT (v := .bool true) rfl rfl) ?_
      refine X.opw X.wN rfl (X.move (v := .bool true) rfl) ?_
      refine X.opE (X.wG rfl rfl rfl) rfl (X.callE (alive_c _) Try.call13 rfl rfl) ?_
      rintro _ w7 ⟨rfl, hk7⟩
      have hk7' := hk7.size
      refine X.opw X.wN rfl (X.pickT (v := .bool _) rfl rfl) ?_
      refine X.opw X.wN rfl (X.assign (v := .bool _) rfl) ?_
      refine X.opsEnd ?_
      refine X.ret1 (v := (.bool _)) Try.func6 Try.results6 rfl ?_
      exact ⟨rfl, ((((hk1.trans hk2).trans hk3).trans hk4).trans hk7)⟩
    · exact absurd rfl h25
  · simp [cmpT_eq] at h22
end Go.Proofs.Ytaclpphhidlgpaa
