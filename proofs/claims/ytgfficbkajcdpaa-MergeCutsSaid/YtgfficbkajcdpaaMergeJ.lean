/- Whether the program is awake. -/
import Derived.Test.YtgfficbkajcdpaaMergeI
import Derived.Test.YtgfficbkajcdpaaProg
namespace Go.Proofs.Ytgfficbkajcdpaa
open Go Go.Proofs.Ytgfficbkajcdpaa.X
set_option linter.unusedVariables false
set_option linter.unusedSimpArgs false
theorem repsTs {w : World} : ∀ ys : List TH, RepsV KTh w ys (ys.map evT)
  | [] => trivial
  | y :: ys => ⟨⟨_, rfl, KTh_R 0 0 w y⟩, repsTs ys⟩
-- f14 "pedigree/pedigreelaw09.alive" params [] results [4] -> [(ResultVar.tmp 0)] nfree 0 ntmps 27 names ["",
set_option maxHeartbeats 4000000 in
set_option maxRecDepth 100000 in
theorem alive_c (w : World) : Ret Try.prog 14 #[] w fun r w' => r = .bool true ∧ Keep w w' := by
  refine X.enter Try.func14 rfl Try.ntmps14 rfl ?_
  refine X.seq ?_
  refine X.region ?_
  refine X.opw X.wN rfl (X.assign rfl) ?_
  refine X.opsEnd ?_
  refine X.seq ?_
  refine X.region ?_
  refine X.opw X.wN rfl (X.buildB (vs := [(0, .int .i8 1)]) (cs := #[.int .i8 1, .int .i64 0]) rfl (by kernel_rfl)) ?_
  refine X.opw X.wN rfl (X.buildB (vs := [(0, .int .i8 4), (1, .int .i64 7)]) (cs := #[.int .i8 4, .int .i64 7]) rfl (by kernel_rfl)) ?_
  refine X.opE X.wN rfl (X.litKF KTh_flat (K := KTh) (xs := [Operand.tmp 4, Operand.tmp 5]) (vs := [evT (1, 0), evT (4, 7)]) (ys := [(1, 0), (4, 7)]) Try.underlying24 Try.sizeOf29 Try.zeroValue29 rfl rfl rfl rfl rfl (repsTs [(1, 0), (4, 7)])) ?_
  rintro _ w1 ⟨rfl, hs1, hB1, hk1, hz1⟩
  refine X.opE X.wN rfl (X.callE (Of_c w.heap.size _ hs1 (by omega) (by omega)) Try.call20 rfl rfl) ?_
  rintro _ w2 ⟨bm2, rfl, hC2, hk2⟩
  have hk2' := hk2.size
  refine X.opw X.wN rfl (X.buildB (vs := [(0, .int .i8 2)]) (cs := #[.int .i8 2, .int .i64 0]) rfl (by kernel_rfl)) ?_
  refine X.opw X.wN rfl (X.buildB (vs := [(0, .int .i8 4)]) (cs := #[.int .i8 4, .int .i64 0]) rfl (by kernel_rfl)) ?_
  refine X.opE X.wN rfl (X.litKF KTh_flat (K := KTh) (xs := [Operand.tmp 8, Operand.tmp 9]) (vs := [evT (2, 0), evT (4, 0)]) (ys := [(2, 0), (4, 0)]) Try.underlying24 Try.sizeOf29 Try.zeroValue29 rfl rfl rfl rfl rfl (repsTs [(2, 0), (4, 0)])) ?_
  rintro _ w3 ⟨rfl, hs3, hB3, hk3, hz3⟩
  refine X.opE X.wN rfl (X.callE (Of_c w.heap.size _ hs3 (by omega) (by omega)) Try.call20 rfl rfl) ?_
  rintro _ w4 ⟨bm4, rfl, hC4, hk4⟩
  have hk4' := hk4.size
  refine X.opE X.wN rfl (X.litKF KR1_flat (K := KR1) (xs := [Operand.tmp 7, Operand.tmp 11]) (vs := [.iface 84 (.pointer (some ⟨bm2, 0, none⟩)), .iface 84 (.pointer (some ⟨bm4, 0, none⟩))]) (ys := [.iface 84 (.pointer (some ⟨bm2, 0, none⟩)), .iface 84 (.pointer (some ⟨bm4, 0, none⟩))]) Try.underlying36 Try.sizeOf33 Try.zeroValue33 rfl rfl rfl rfl rfl ⟨⟨_, rfl, rfl, rfl⟩, ⟨_, rfl, rfl, rfl⟩, trivial⟩) ?_
  rintro _ w5 ⟨rfl, hs5, hB5, hk5, hz5⟩
  refine X.opE X.wN rfl (X.callE (Merge2_c _ hs5 (hC2.keep ((hk3.trans hk4).trans hk5)) (hC4.keep hk5) (by omega) (by omega) (by omega) (by omega) (by omega) cmp17) Try.call16 rfl rfl) ?_
  rintro _ w6 ⟨⟨p6, rfl⟩, hC6, hk6⟩
  have hk6' := hk6.size
  refine X.opE X.wN rfl (X.callE (rest_c _ (CV.cur hC6) (by omega) (fun k hk => by (try simp only [] at *); omega) (by decide)) Try.call15 rfl rfl) ?_
  rintro _ w7 ⟨v7, rfl, hM7, hx7⟩
  have hx7' := hx7.size
  refine X.opw X.wN rfl (X.move rfl) ?_
  refine X.opw X.wN rfl (X.extr rfl rfl) ?_
  refine X.opw X.wN rfl (X.extr rfl rfl) ?_
  refine X.opw X.wN rfl (X.assign rfl) ?_
  refine X.opw X.wN rfl (X.assign (v := .bool _) rfl) ?_
  refine X.opsEnd ?_
  refine X.seq ?_
  refine X.region ?_
  refine X.opw X.wN rfl (X.move (v := .bool true) rfl) ?_
  refine X.opw X.wN rfl (X.move (v := .bool true) rfl) ?_
  refine X.opw (X.wG rfl rfl rfl) rfl (X.move rfl) ?_
  refine X.opw (X.wG rfl rfl rfl) rfl (X.buildB (vs := [(0, .int .i8 1)]) (cs := #[.int .i8 1, .int .i64 0]) rfl (by kernel_rfl)) ?_
  refine X.opw (X.wG rfl rfl rfl) rfl (X.buildB (vs := [(0, .int .i8 2)]) (cs := #[.int .i8 2, .int .i64 0]) rfl (by kernel_rfl)) ?_
  refine X.opw (X.wG rfl rfl rfl) rfl (X.buildB (vs := [(0, .int .i8 4), (1, .int .i64 7)]) (cs := #[.int .i8 4, .int .i64 7]) rfl (by kernel_rfl)) ?_
  refine X.opw (X.wG rfl rfl rfl) rfl (X.buildB (vs := [(0, .int .i8 4)]) (cs := #[.int .i8 4, .int .i64 0]) rfl (by kernel_rfl)) ?_
  refine X.opE (X.wG rfl rfl rfl) rfl (X.litKF KTh_flat (K := KTh) (xs := [Operand.tmp 20, Operand.tmp 21, Operand.tmp 22, Operand.tmp 23]) (vs := [evT (1, 0), evT (2, 0), evT (4, 7), evT (4, 0)]) (ys := [(1, 0), (2, 0), (4, 7), (4, 0)]) Try.underlying24 Try.sizeOf29 Try.zeroValue29 rfl rfl rfl rfl rfl (repsTs [(1, 0), (2, 0), (4, 7), (4, 0)])) ?_
  rintro _ w8 ⟨rfl, hs8, hB8, hk8, hz8⟩
  have q10 := (hM7.keep hk8).slF KTh_flat 0 (fun _ _ => Nat.zero_le _)
  obtain ⟨A10, c10, rfl, hc10, hs10⟩ := q10
  refine X.opE (X.wG rfl rfl rfl) rfl (X.callE (Same_c _ hs10 hs8) Try.call22 rfl rfl) ?_
  rintro _ w9 ⟨rfl, hk9⟩
  have hk9' := hk9.size
  refine X.opw X.wN rfl (X.pickT (v := .bool _) rfl rfl) ?_
  refine X.opw X.wN rfl (X.assign (v := .bool _) rfl) ?_
  refine X.opsEnd ?_
  refine X.ret1 (v := (.bool _)) Try.func14 Try.results14 rfl ?_
  exact ⟨congrArg Value.bool (decide_eq_true (by decide)), ((((((((hk1.trans hk2).trans hk3).trans hk4).trans hk5).trans hk6).step hx7 (by intros; (try simp only [] at *); omega)).trans hk8).trans hk9)⟩
end Go.Proofs.Ytgfficbkajcdpaa
