/- Heads: what a cursor told last. -/
import Derived.Test.YtgfficbkajcdpaaMergeC
import Derived.Test.YtgfficbkajcdpaaProg
namespace Go.Proofs.Ytgfficbkajcdpaa
open Go Go.Proofs.Ytgfficbkajcdpaa.X
set_option linter.unusedVariables false
set_option linter.unusedSimpArgs false
-- f48 "(*pedigree/merge.head[pedigree/pedigreeref09.Thing]).look" params [85] results [29, 4] -> [(ResultVar.
set_option maxHeartbeats 4000000 in
set_option maxRecDepth 100000 in
theorem lookt_c (hb : Nat) (c : Value) (x : TH) (w : World) (hB : Blk w hb [c, .int .i8 x.1, .int .i64 x.2, .bool true, .bool false] 112) : Ret Try.prog 48 #[.pointer (some ⟨hb, 0, none⟩)] w fun r w' => r = .tuple #[evT x, .bool true] ∧ Keep w w' := by
  have hhb := hB.lt
  refine X.enter Try.func48 rfl Try.ntmps48 rfl ?_
  refine X.seq ?_
  refine X.region ?_
  refine X.opE X.wN rfl (X.allocE Try.zeroValue29 rfl) ?_
  rintro _ w1 ⟨rfl, hB1, hk1, hz1⟩
  refine X.opw X.wN rfl (X.assign rfl) ?_
  refine X.opsEnd ?_
  refine X.seq ?_
  refine X.seq ?_
  refine X.region ?_
  refine X.opw X.wN rfl (X.move rfl) ?_
  refine X.opw X.wN rfl (X.nilCk rfl) ?_
  refine X.opw X.wN rfl (X.fldB (j := 3) Try.underlying112 rfl rfl Try.sizeOf4 rfl) ?_
  refine X.opw X.wN rfl (X.load1B Try.isAgg4 (hB.keep hk1) rfl rfl) ?_
  refine X.opw X.wN rfl (X.not_ rfl) ?_
  refine X.opw X.wN rfl (X.move (v := .bool false) rfl) ?_
  refine X.opS rfl rfl rfl rfl rfl ?_
  refine X.opS rfl rfl rfl rfl rfl ?_
  refine X.opS rfl rfl rfl rfl rfl ?_
  refine X.opS rfl rfl rfl rfl rfl ?_
  refine X.opS rfl rfl rfl rfl rfl ?_
  refine X.opw X.wN rfl (X.pickF (v := .bool false) rfl rfl) ?_
  refine X.opsEnd ?_
  refine X.condF rfl ?_
  refine X.skip ?_
  refine X.seq ?_
  refine X.regionD (fun k => k = w.heap.size) 10 (by kernel_rfl) (by kernel_rfl) (fun w2 hk2 hz2 => ?_)
  refine X.dTake 0 rfl (by kernel_rfl) (by kernel_rfl) (by kernel_rfl) (X.dwN rfl) (fun w' hk' => X.move rfl) ?_
  refine X.dTake 1 rfl (by kernel_rfl) (by kernel_rfl) (by kernel_rfl) (X.dwN rfl) (fun w' hk' => X.nilCk rfl) ?_
  refine X.dTake 2 rfl (by kernel_rfl) (by kernel_rfl) (by kernel_rfl) (X.dwN rfl) (fun w' hk' => X.fldB (j := 1) Try.underlying112 rfl rfl Try.sizeOf29 rfl) ?_
  refine X.dTake 3 rfl (by kernel_rfl) (by kernel_rfl) (by kernel_rfl) (X.dwN rfl) (fun w' hk' => X.loadNB Try.isAgg29 Try.sizeOf29 (hB.keep ((hk1.trans hk2).step hk' (by intros; (try simp only [] at *); omega))) rfl rfl rfl) ?_
  refine X.dTake 4 rfl (by kernel_rfl) (by kernel_rfl) (by kernel_rfl) (X.dwN rfl) (fun w' hk' => X.move rfl) ?_
  refine X.dTake 5 rfl (by kernel_rfl) (by kernel_rfl) (by kernel_rfl) (X.dwN rfl) (fun w' hk' => X.nilCk rfl) ?_
  refine X.dTake 6 rfl (by kernel_rfl) (by kernel_rfl) (by kernel_rfl) (X.dwN rfl) (fun w' hk' => X.fldB (j := 4) Try.underlying112 rfl rfl Try.sizeOf4 rfl) ?_
  refine X.dTake 7 rfl (by kernel_rfl) (by kernel_rfl) (by kernel_rfl) (X.dwN rfl) (fun w' hk' => X.load1B Try.isAgg4 (hB.keep ((hk1.trans hk2).step hk' (by intros; (try simp only [] at *); omega))) rfl rfl) ?_
  refine X.dTake 8 rfl (by kernel_rfl) (by kernel_rfl) (by kernel_rfl) (X.dwN rfl) (fun w' hk' => X.not_ rfl) ?_
  refine X.dE (i := 9) (by kernel_rfl) rfl (X.dwN rfl) (X.storeNE Try.sizeOf29 (hB1.keep hk2) rfl rfl rfl rfl (fun u hu => by simp at hu; rcases hu with rfl | rfl <;> rfl)) (by rintro _ w3 ⟨hB3, hx3, hz3⟩ _; exact hx3.mono (fun k _ h => by (try simp only [] at *); omega)) ?_
  rintro _ w3 ⟨hB3, hx3, hz3⟩
  refine X.dStep (i := 10) (by kernel_rfl) rfl (X.dwN rfl) (X.assign (v := .bool _) rfl) (fun h => absurd h (by decide)) ?_
  refine X.dEnd (by kernel_rfl) ?_
  refine X.ret_unw (X.unwR2 Try.func48 Try.results48 (X.ResOk.cell rfl (X.lvN Try.isAgg29 Try.sizeOf29 hB3 rfl)) (show X.ResOk _ _ _ (.tmp 3) (.bool _) from rfl) ?_)
  exact ⟨rfl, ((hk1.trans hk2).step hx3 (by intros; (try simp only [] at *); omega))⟩
-- f48 "(*pedigree/merge.head[pedigree/pedigreeref09.Thing]).look" params [85] results [29, 4] -> [(ResultVar.
set_option maxHeartbeats 4000000 in
set_option maxRecDepth 100000 in
theorem looko_c (hb : Nat) (c : Value) (x : TH) (w : World) (hB : Blk w hb [c, .int .i8 x.1, .int .i64 x.2, .bool true, .bool true] 112) : Ret Try.prog 48 #[.pointer (some ⟨hb, 0, none⟩)] w fun r w' => r = .tuple #[evT x, .bool false] ∧ Keep w w' := by
  have hhb := hB.lt
  refine X.enter Try.func48 rfl Try.ntmps48 rfl ?_
  refine X.seq ?_
  refine X.region ?_
  refine X.opE X.wN rfl (X.allocE Try.zeroValue29 rfl) ?_
  rintro _ w1 ⟨rfl, hB1, hk1, hz1⟩
  refine X.opw X.wN rfl (X.assign rfl) ?_
  refine X.opsEnd ?_
  refine X.seq ?_
  refine X.seq ?_
  refine X.region ?_
  refine X.opw X.wN rfl (X.move rfl) ?_
  refine X.opw X.wN rfl (X.nilCk rfl) ?_
  refine X.opw X.wN rfl (X.fldB (j := 3) Try.underlying112 rfl rfl Try.sizeOf4 rfl) ?_
  refine X.opw X.wN rfl (X.load1B Try.isAgg4 (hB.keep hk1) rfl rfl) ?_
  refine X.opw X.wN rfl (X.not_ rfl) ?_
  refine X.opw X.wN rfl (X.move (v := .bool false) rfl) ?_
  refine X.opS rfl rfl rfl rfl rfl ?_
  refine X.opS rfl rfl rfl rfl rfl ?_
  refine X.opS rfl rfl rfl rfl rfl ?_
  refine X.opS rfl rfl rfl rfl rfl ?_
  refine X.opS rfl rfl rfl rfl rfl ?_
  refine X.opw X.wN rfl (X.pickF (v := .bool false) rfl rfl) ?_
  refine X.opsEnd ?_
  refine X.condF rfl ?_
  refine X.skip ?_
  refine X.seq ?_
  refine X.regionD (fun k => k = w.heap.size) 10 (by kernel_rfl) (by kernel_rfl) (fun w2 hk2 hz2 => ?_)
  refine X.dTake 0 rfl (by kernel_rfl) (by kernel_rfl) (by kernel_rfl) (X.dwN rfl) (fun w' hk' => X.move rfl) ?_
  refine X.dTake 1 rfl (by kernel_rfl) (by kernel_rfl) (by kernel_rfl) (X.dwN rfl) (fun w' hk' => X.nilCk rfl) ?_
  refine X.dTake 2 rfl (by kernel_rfl) (by kernel_rfl) (by kernel_rfl) (X.dwN rfl) (fun w' hk' => X.fldB (j := 1) Try.underlying112 rfl rfl Try.sizeOf29 rfl) ?_
  refine X.dTake 3 rfl (by kernel_rfl) (by kernel_rfl) (by kernel_rfl) (X.dwN rfl) (fun w' hk' => X.loadNB Try.isAgg29 Try.sizeOf29 (hB.keep ((hk1.trans hk2).step hk' (by intros; (try simp only [] at *); omega))) rfl rfl rfl) ?_
  refine X.dTake 4 rfl (by kernel_rfl) (by kernel_rfl) (by kernel_rfl) (X.dwN rfl) (fun w' hk' => X.move rfl) ?_
  refine X.dTake 5 rfl (by kernel_rfl) (by kernel_rfl) (by kernel_rfl) (X.dwN rfl) (fun w' hk' => X.nilCk rfl) ?_
  refine X.dTake 6 rfl (by kernel_rfl) (by kernel_rfl) (by kernel_rfl) (X.dwN rfl) (fun w' hk' => X.fldB (j := 4) Try.underlying112 rfl rfl Try.sizeOf4 rfl) ?_
  refine X.dTake 7 rfl (by kernel_rfl) (by kernel_rfl) (by kernel_rfl) (X.dwN rfl) (fun w' hk' => X.load1B Try.isAgg4 (hB.keep ((hk1.trans hk2).step hk' (by intros; (try simp only [] at *); omega))) rfl rfl) ?_
  refine X.dTake 8 rfl (by kernel_rfl) (by kernel_rfl) (by kernel_rfl) (X.dwN rfl) (fun w' hk' => X.not_ rfl) ?_
  refine X.dE (i := 9) (by kernel_rfl) rfl (X.dwN rfl) (X.storeNE Try.sizeOf29 (hB1.keep hk2) rfl rfl rfl rfl (fun u hu => by simp at hu; rcases hu with rfl | rfl <;> rfl)) (by rintro _ w3 ⟨hB3, hx3, hz3⟩ _; exact hx3.mono (fun k _ h => by (try simp only [] at *); omega)) ?_
  rintro _ w3 ⟨hB3, hx3, hz3⟩
  refine X.dStep (i := 10) (by kernel_rfl) rfl (X.dwN rfl) (X.assign (v := .bool _) rfl) (fun h => absurd h (by decide)) ?_
  refine X.dEnd (by kernel_rfl) ?_
  refine X.ret_unw (X.unwR2 Try.func48 Try.results48 (X.ResOk.cell rfl (X.lvN Try.isAgg29 Try.sizeOf29 hB3 rfl)) (show X.ResOk _ _ _ (.tmp 3) (.bool _) from rfl) ?_)
  exact ⟨rfl, ((hk1.trans hk2).step hx3 (by intros; (try simp only [] at *); omega))⟩
-- f48 "(*pedigree/merge.head[pedigree/pedigreeref09.Thing]).look" params [85] results [29, 4] -> [(ResultVar.
set_option maxHeartbeats 4000000 in
set_option maxRecDepth 100000 in
theorem lookn_c (hb : Nat) (x : TH) (w : World) (hB : Blk w hb [.nilIface, .int .i8 x.1, .int .i64 x.2, .bool false, .bool false] 112) : Ret Try.prog 48 #[.pointer (some ⟨hb, 0, none⟩)] w fun r w' => r = .tuple #[evT x, .bool false] ∧ Blk w' hb [.nilIface, .int .i8 x.1, .int .i64 x.2, .bool true, .bool true] 112 ∧ Ext (fun k => k = hb) w w' := by
  have hhb := hB.lt
  refine X.enter Try.func48 rfl Try.ntmps48 rfl ?_
  refine X.seq ?_
  refine X.region ?_
  refine X.opE X.wN rfl (X.allocE Try.zeroValue29 rfl) ?_
  rintro _ w1 ⟨rfl, hB1, hk1, hz1⟩
  refine X.opw X.wN rfl (X.assign rfl) ?_
  refine X.opsEnd ?_
  refine X.seq ?_
  refine X.seq ?_
  refine X.region ?_
  refine X.opw X.wN rfl (X.move rfl) ?_
  refine X.opw X.wN rfl (X.nilCk rfl) ?_
  refine X.opw X.wN rfl (X.fldB (j := 3) Try.underlying112 rfl rfl Try.sizeOf4 rfl) ?_
  refine X.opw X.wN rfl (X.load1B Try.isAgg4 (hB.keep hk1) rfl rfl) ?_
  refine X.opw X.wN rfl (X.not_ rfl) ?_
  refine X.opw X.wN rfl (X.move (v := .bool true) rfl) ?_
  refine X.opw (X.wG rfl rfl rfl) rfl (X.move rfl) ?_
  refine X.opw (X.wG rfl rfl rfl) rfl (X.nilCk rfl) ?_
  refine X.opw (X.wG rfl rfl rfl) rfl (X.fldB (j := 4) Try.underlying112 rfl rfl Try.sizeOf4 rfl) ?_
  refine X.opw (X.wG rfl rfl rfl) rfl (X.load1B Try.isAgg4 (hB.keep hk1) rfl rfl) ?_
  refine X.opw (X.wG rfl rfl rfl) rfl (X.not_ rfl) ?_
  refine X.opw X.wN rfl (X.pickT (v := .bool true) rfl rfl) ?_
  refine X.opsEnd ?_
  refine X.condT rfl ?_
  refine X.seq ?_
  refine X.region ?_
  refine X.opw X.wN rfl (X.move rfl) ?_
  refine X.opw X.wN rfl (X.nilCk rfl) ?_
  refine X.opw X.wN rfl (X.fldB (j := 3) Try.underlying112 rfl rfl Try.sizeOf4 rfl) ?_
  refine X.opE X.wN rfl (X.storeE Try.sizeOf4 (hB.keep hk1) rfl rfl rfl rfl) ?_
  rintro _ w2 ⟨hB2, hx2, hz2⟩
  refine X.opsEnd ?_
  refine X.seq ?_
  refine X.region ?_
  refine X.opw X.wN rfl (X.assign rfl) ?_
  refine X.opsEnd ?_
  refine X.seq ?_
  refine X.seq ?_
  refine X.region ?_
  refine X.opw X.wN rfl (X.move rfl) ?_
  refine X.opw X.wN rfl (X.nilCk rfl) ?_
  refine X.opw X.wN rfl (X.fldB (j := 0) Try.underlying112 rfl rfl Try.sizeOf33 rfl) ?_
  refine X.opw X.wN rfl (X.load1B Try.isAgg33 hB2 rfl rfl) ?_
  refine X.opw X.wN rfl (X.neIf0 Try.underlying33 rfl rfl) ?_
  refine X.opsEnd ?_
  refine X.condF rfl ?_
  refine X.skip ?_
  refine X.region ?_
  refine X.opw X.wN rfl (X.move rfl) ?_
  refine X.opw X.wN rfl (X.move (v := .bool false) rfl) ?_
  refine X.opw X.wN rfl (X.not_ rfl) ?_
  refine X.opw X.wN rfl (X.nilCk rfl) ?_
  refine X.opw X.wN rfl (X.fldB (j := 4) Try.underlying112 rfl rfl Try.sizeOf4 rfl) ?_
  refine X.opE X.wN rfl (X.storeE Try.sizeOf4 hB2 rfl rfl rfl rfl) ?_
  rintro _ w3 ⟨hB3, hx3, hz3⟩
  refine X.opsEnd ?_
  refine X.seq ?_
  refine X.regionD (fun k => k = w.heap.size) 10 (by kernel_rfl) (by kernel_rfl) (fun w4 hk4 hz4 => ?_)
  refine X.dTake 0 rfl (by kernel_rfl) (by kernel_rfl) (by kernel_rfl) (X.dwN rfl) (fun w' hk' => X.move rfl) ?_
  refine X.dTake 1 rfl (by kernel_rfl) (by kernel_rfl) (by kernel_rfl) (X.dwN rfl) (fun w' hk' => X.nilCk rfl) ?_
  refine X.dTake 2 rfl (by kernel_rfl) (by kernel_rfl) (by kernel_rfl) (X.dwN rfl) (fun w' hk' => X.fldB (j := 1) Try.underlying112 rfl rfl Try.sizeOf29 rfl) ?_
  refine X.dTake 3 rfl (by kernel_rfl) (by kernel_rfl) (by kernel_rfl) (X.dwN rfl) (fun w' hk' => X.loadNB Try.isAgg29 Try.sizeOf29 ((hB3.keep hk4).ext hk' (by intros; (try simp only []); omega)) rfl rfl rfl) ?_
  refine X.dTake 4 rfl (by kernel_rfl) (by kernel_rfl) (by kernel_rfl) (X.dwN rfl) (fun w' hk' => X.move rfl) ?_
  refine X.dTake 5 rfl (by kernel_rfl) (by kernel_rfl) (by kernel_rfl) (X.dwN rfl) (fun w' hk' => X.nilCk rfl) ?_
  refine X.dTake 6 rfl (by kernel_rfl) (by kernel_rfl) (by kernel_rfl) (X.dwN rfl) (fun w' hk' => X.fldB (j := 4) Try.underlying112 rfl rfl Try.sizeOf4 rfl) ?_
  refine X.dTake 7 rfl (by kernel_rfl) (by kernel_rfl) (by kernel_rfl) (X.dwN rfl) (fun w' hk' => X.load1B Try.isAgg4 ((hB3.keep hk4).ext hk' (by intros; (try simp only []); omega)) rfl rfl) ?_
  refine X.dTake 8 rfl (by kernel_rfl) (by kernel_rfl) (by kernel_rfl) (X.dwN rfl) (fun w' hk' => X.not_ rfl) ?_
  refine X.dE (i := 9) (by kernel_rfl) rfl (X.dwN rfl) (X.storeNE Try.sizeOf29 (((hB1.ext hx2 (by intros; (try simp only []); omega)).ext hx3 (by intros; (try simp only []); omega)).keep hk4) rfl rfl rfl rfl (fun u hu => by simp at hu; rcases hu with rfl | rfl <;> rfl)) (by rintro _ w5 ⟨hB5, hx5, hz5⟩ _; exact hx5.mono (fun k _ h => by (try simp only [] at *); omega)) ?_
  rintro _ w5 ⟨hB5, hx5, hz5⟩
  refine X.dStep (i := 10) (by kernel_rfl) rfl (X.dwN rfl) (X.assign (v := .bool _) rfl) (fun h => absurd h (by decide)) ?_
  refine X.dEnd (by kernel_rfl) ?_
  refine X.ret_unw (X.unwR2 Try.func48 Try.results48 (X.ResOk.cell rfl (X.lvN Try.isAgg29 Try.sizeOf29 hB5 rfl)) (show X.ResOk _ _ _ (.tmp 3) (.bool _) from rfl) ?_)
  exact ⟨rfl, ((hB3.keep hk4).ext hx5 (by intros; (try simp only []); omega)), (Ext.andThen (Ext.andThen (Ext.andThen (Ext.andThen (Ext.andThen (Ext.refl (fun k => k = hb) _) hk1 (by intro k h1 h2; first | exact h2 | exact .inl h2 | exact .inr h2 | exact (h2 : False).elim | (exfalso; (try simp only [] at *); omega))) hx2 (by intro k h1 h2; first | exact h2 | exact .inl h2 | exact .inr h2 | exact (h2 : False).elim | (exfalso; (try simp only [] at *); omega))) hx3 (by intro k h1 h2; first | exact h2 | exact .inl h2 | exact .inr h2 | exact (h2 : False).elim | (exfalso; (try simp only [] at *); omega))) hk4 (by intro k h1 h2; first | exact h2 | exact .inl h2 | exact .inr h2 | exact (h2 : False).elim | (exfalso; (try simp only [] at *); omega))) hx5 (by intro k h1 h2; first | exact h2 | exact .inl h2 | exact .inr h2 | exact (h2 : False).elim | (exfalso; (try simp only [] at *); omega)))⟩
-- f48 "(*pedigree/merge.head[pedigree/pedigreeref09.Thing]).look" params [85] results [29, 4] -> [(ResultVar.
set_option maxHeartbeats 4000000 in
set_option maxRecDepth 100000 in
theorem lookc_c {B : Nat} {T : Nat → Prop} {p : Value} {ys : List TH} (hb : Nat) (x : TH) (w : World) (hB : Blk w hb [(.iface 84 p), .int .i8 x.1, .int .i64 x.2, .bool false, .bool false] 112) (hC : Cur Try.prog evT (0, 0) 98 B T p ys w) (hBs : B ≤ w.heap.size) (hBh : B ≤ hb) (hTh : ¬ T hb) (hTb : ∀ k, T k → k < w.heap.size) :
    Ret Try.prog 48 #[.pointer (some ⟨hb, 0, none⟩)] w fun r w' => r = .tuple #[evT (ys.headD (0, 0)), .bool (!ys.isEmpty)] ∧ Blk w' hb [(.iface 84 p), .int .i8 (ys.headD (0, 0)).1, .int .i64 (ys.headD (0, 0)).2, .bool true, .bool ys.isEmpty] 112 ∧ Cur Try.prog evT (0, 0) 98 B T p ys.tail w' ∧ Ext (fun k => T k ∨ k = hb) w w' := by
  have hhb := hB.lt
  refine X.enter Try.func48 rfl Try.ntmps48 rfl ?_
  refine X.seq ?_
  refine X.region ?_
  refine X.opE X.wN rfl (X.allocE Try.zeroValue29 rfl) ?_
  rintro _ w1 ⟨rfl, hB1, hk1, hz1⟩
  refine X.opw X.wN rfl (X.assign rfl) ?_
  refine X.opsEnd ?_
  refine X.seq ?_
  refine X.seq ?_
  refine X.region ?_
  refine X.opw X.wN rfl (X.move rfl) ?_
  refine X.opw X.wN rfl (X.nilCk rfl) ?_
  refine X.opw X.wN rfl (X.fldB (j := 3) Try.underlying112 rfl rfl Try.sizeOf4 rfl) ?_
  refine X.opw X.wN rfl (X.load1B Try.isAgg4 (hB.keep hk1) rfl rfl) ?_
  refine X.opw X.wN rfl (X.not_ rfl) ?_
  refine X.opw X.wN rfl (X.move (v := .bool true) rfl) ?_
  refine X.opw (X.wG rfl rfl rfl) rfl (X.move rfl) ?_
  refine X.opw (X.wG rfl rfl rfl) rfl (X.nilCk rfl) ?_
  refine X.opw (X.wG rfl rfl rfl) rfl (X.fldB (j := 4) Try.underlying112 rfl rfl Try.sizeOf4 rfl) ?_
  refine X.opw (X.wG rfl rfl rfl) rfl (X.load1B Try.isAgg4 (hB.keep hk1) rfl rfl) ?_
  refine X.opw (X.wG rfl rfl rfl) rfl (X.not_ rfl) ?_
  refine X.opw X.wN rfl (X.pickT (v := .bool true) rfl rfl) ?_
  refine X.opsEnd ?_
  refine X.condT rfl ?_
  refine X.seq ?_
  refine X.region ?_
  refine X.opw X.wN rfl (X.move rfl) ?_
  refine X.opw X.wN rfl (X.nilCk rfl) ?_
  refine X.opw X.wN rfl (X.fldB (j := 3) Try.underlying112 rfl rfl Try.sizeOf4 rfl) ?_
  refine X.opE X.wN rfl (X.storeE Try.sizeOf4 (hB.keep hk1) rfl rfl rfl rfl) ?_
  rintro _ w2 ⟨hB2, hx2, hz2⟩
  refine X.opsEnd ?_
  refine X.seq ?_
  refine X.region ?_
  refine X.opw X.wN rfl (X.assign rfl) ?_
  refine X.opsEnd ?_
  refine X.seq ?_
  refine X.seq ?_
  refine X.region ?_
  refine X.opw X.wN rfl (X.move rfl) ?_
  refine X.opw X.wN rfl (X.nilCk rfl) ?_
  refine X.opw X.wN rfl (X.fldB (j := 0) Try.underlying112 rfl rfl Try.sizeOf33 rfl) ?_
  refine X.opw X.wN rfl (X.load1B Try.isAgg33 hB2 rfl rfl) ?_
  refine X.opw X.wN rfl (X.neIf1 Try.underlying33 rfl rfl) ?_
  refine X.opsEnd ?_
  refine X.condT rfl ?_
  refine X.region ?_
  refine X.opw X.wN rfl (X.move rfl) ?_
  refine X.opw X.wN rfl (X.move rfl) ?_
  refine X.opw X.wN rfl (X.nilCk rfl) ?_
  refine X.opw X.wN rfl (X.fldB (j := 0) Try.underlying112 rfl rfl Try.sizeOf33 rfl) ?_
  refine X.opw X.wN rfl (X.load1B Try.isAgg33 hB2 rfl rfl) ?_
  refine X.opE X.wN rfl (X.invokeE rfl (next_m _) ((hC.keep hk1).ext hx2 (by intro k hk hk2; first | (replace hk2 : k = hb := hk2; rw [hk2]; exact ⟨hBh, hTh⟩) | refine ⟨by (try simp only [] at *); omega, fun ht => by have := hTb k ht; (try simp only [] at *); omega⟩)).next Try.call98) ?_
  rintro _ w3 ⟨rfl, hx3, hC3⟩
  have hx3' := hx3.size
  refine X.opw X.wN rfl (X.move rfl) ?_
  refine X.opw X.wN rfl (X.extr rfl rfl) ?_
  refine X.opw X.wN rfl (X.extr rfl rfl) ?_
  refine X.opw X.wN rfl (X.nilCk rfl) ?_
  refine X.opw X.wN rfl (X.fldB (j := 1) Try.underlying112 rfl rfl Try.sizeOf29 rfl) ?_
  refine X.opE X.wN rfl (X.storeAtE Try.sizeOf29 (hB2.ext hx3 hTh) rfl rfl rfl rfl (fun u hu => by simp at hu; rcases hu with rfl | rfl <;> rfl)) ?_
  rintro _ w4 ⟨hB4, hx4, hz4⟩
  refine X.opw X.wN rfl (X.assign (v := .bool _) rfl) ?_
  refine X.opsEnd ?_
  refine X.region ?_
  refine X.opw X.wN rfl (X.move rfl) ?_
  refine X.opw X.wN rfl (X.move (v := .bool _) rfl) ?_
  refine X.opw X.wN rfl (X.not_ rfl) ?_
  refine X.opw X.wN rfl (X.nilCk rfl) ?_
  refine X.opw X.wN rfl (X.fldB (j := 4) Try.underlying112 rfl rfl Try.sizeOf4 rfl) ?_
  refine X.opE X.wN rfl (X.storeE Try.sizeOf4 hB4 rfl rfl rfl rfl) ?_
  rintro _ w5 ⟨hB5, hx5, hz5⟩
  refine X.opsEnd ?_
  refine X.seq ?_
  refine X.regionD (fun k => k = w.heap.size) 10 (by kernel_rfl) (by kernel_rfl) (fun w6 hk6 hz6 => ?_)
  refine X.dTake 0 rfl (by kernel_rfl) (by kernel_rfl) (by kernel_rfl) (X.dwN rfl) (fun w' hk' => X.move rfl) ?_
  refine X.dTake 1 rfl (by kernel_rfl) (by kernel_rfl) (by kernel_rfl) (X.dwN rfl) (fun w' hk' => X.nilCk rfl) ?_
  refine X.dTake 2 rfl (by kernel_rfl) (by kernel_rfl) (by kernel_rfl) (X.dwN rfl) (fun w' hk' => X.fldB (j := 1) Try.underlying112 rfl rfl Try.sizeOf29 rfl) ?_
  refine X.dTake 3 rfl (by kernel_rfl) (by kernel_rfl) (by kernel_rfl) (X.dwN rfl) (fun w' hk' => X.loadNB Try.isAgg29 Try.sizeOf29 ((hB5.keep hk6).ext hk' (by intros; (try simp only []); omega)) rfl rfl rfl) ?_
  refine X.dTake 4 rfl (by kernel_rfl) (by kernel_rfl) (by kernel_rfl) (X.dwN rfl) (fun w' hk' => X.move rfl) ?_
  refine X.dTake 5 rfl (by kernel_rfl) (by kernel_rfl) (by kernel_rfl) (X.dwN rfl) (fun w' hk' => X.nilCk rfl) ?_
  refine X.dTake 6 rfl (by kernel_rfl) (by kernel_rfl) (by kernel_rfl) (X.dwN rfl) (fun w' hk' => X.fldB (j := 4) Try.underlying112 rfl rfl Try.sizeOf4 rfl) ?_
  refine X.dTake 7 rfl (by kernel_rfl) (by kernel_rfl) (by kernel_rfl) (X.dwN rfl) (fun w' hk' => X.load1B Try.isAgg4 ((hB5.keep hk6).ext hk' (by intros; (try simp only []); omega)) rfl rfl) ?_
  refine X.dTake 8 rfl (by kernel_rfl) (by kernel_rfl) (by kernel_rfl) (X.dwN rfl) (fun w' hk' => X.not_ rfl) ?_
  refine X.dE (i := 9) (by kernel_rfl) rfl (X.dwN rfl) (X.storeNE Try.sizeOf29 (((((hB1.ext hx2 (by intros; (try simp only []); omega)).ext hx3 (fun h => by have := hTb _ h; omega)).ext hx4 (by intros; (try simp only []); omega)).ext hx5 (by intros; (try simp only []); omega)).keep hk6) rfl rfl rfl rfl (fun u hu => by simp at hu; rcases hu with rfl | rfl <;> rfl)) (by rintro _ w7 ⟨hB7, hx7, hz7⟩ _; exact hx7.mono (fun k _ h => by (try simp only [] at *); omega)) ?_
  rintro _ w7 ⟨hB7, hx7, hz7⟩
  refine X.dStep (i := 10) (by kernel_rfl) rfl (X.dwN rfl) (X.assign (v := .bool _) rfl) (fun h => absurd h (by decide)) ?_
  refine X.dEnd (by kernel_rfl) ?_
  refine X.ret_unw (X.unwR2 Try.func48 Try.results48 (X.ResOk.cell rfl (X.lvN Try.isAgg29 Try.sizeOf29 hB7 rfl)) (show X.ResOk _ _ _ (.tmp 3) (.bool _) from rfl) ?_)
  cases ys with
  | nil => exact ⟨rfl, ((hB5.keep hk6).ext hx7 (by intros; (try simp only []); omega)), ((((hC3.ext hx4 (by intro k hk hk2; first | (replace hk2 : k = hb := hk2; rw [hk2]; exact ⟨hBh, hTh⟩) | refine ⟨by (try simp only [] at *); omega, fun ht => by have := hTb k ht; (try simp only [] at *); omega⟩)).ext hx5 (by intro k hk hk2; first | (replace hk2 : k = hb := hk2; rw [hk2]; exact ⟨hBh, hTh⟩) | refine ⟨by (try simp only [] at *); omega, fun ht => by have := hTb k ht; (try simp only [] at *); omega⟩)).keep hk6).ext hx7 (by intro k hk hk2; first | (replace hk2 : k = hb := hk2; rw [hk2]; exact ⟨hBh, hTh⟩) | refine ⟨by (try simp only [] at *); omega, fun ht => by have := hTb k ht; (try simp only [] at *); omega⟩)), (Ext.andThen (Ext.andThen (Ext.andThen (Ext.andThen (Ext.andThen (Ext.andThen (Ext.andThen (Ext.refl (fun k => T k ∨ k = hb) _) hk1 (by intro k h1 h2; first | exact h2 | exact .inl h2 | exact .inr h2 | exact (h2 : False).elim | (exfalso; (try simp only [] at *); omega))) hx2 (by intro k h1 h2; first | exact h2 | exact .inl h2 | exact .inr h2 | exact (h2 : False).elim | (exfalso; (try simp only [] at *); omega))) hx3 (by intro k h1 h2; first | exact h2 | exact .inl h2 | exact .inr h2 | exact (h2 : False).elim | (exfalso; (try simp only [] at *); omega))) hx4 (by intro k h1 h2; first | exact h2 | exact .inl h2 | exact .inr h2 | exact (h2 : False).elim | (exfalso; (try simp only [] at *); omega))) hx5 (by intro k h1 h2; first | exact h2 | exact .inl h2 | exact .inr h2 | exact (h2 : False).elim | (exfalso; (try simp only [] at *); omega))) hk6 (by intro k h1 h2; first | exact h2 | exact .inl h2 | exact .inr h2 | exact (h2 : False).elim | (exfalso; (try simp only [] at *); omega))) hx7 (by intro k h1 h2; first | exact h2 | exact .inl h2 | exact .inr h2 | exact (h2 : False).elim | (exfalso; (try simp only [] at *); omega)))⟩
  | cons y ys => exact ⟨rfl, ((hB5.keep hk6).ext hx7 (by intros; (try simp only []); omega)), ((((hC3.ext hx4 (by intro k hk hk2; first | (replace hk2 : k = hb := hk2; rw [hk2]; exact ⟨hBh, hTh⟩) | refine ⟨by (try simp only [] at *); omega, fun ht => by have := hTb k ht; (try simp only [] at *); omega⟩)).ext hx5 (by intro k hk hk2; first | (replace hk2 : k = hb := hk2; rw [hk2]; exact ⟨hBh, hTh⟩) | refine ⟨by (try simp only [] at *); omega, fun ht => by have := hTb k ht; (try simp only [] at *); omega⟩)).keep hk6).ext hx7 (by intro k hk hk2; first | (replace hk2 : k = hb := hk2; rw [hk2]; exact ⟨hBh, hTh⟩) | refine ⟨by (try simp only [] at *); omega, fun ht => by have := hTb k ht; (try simp only [] at *); omega⟩)), (Ext.andThen (Ext.andThen (Ext.andThen (Ext.andThen (Ext.andThen (Ext.andThen (Ext.andThen (Ext.refl (fun k => T k ∨ k = hb) _) hk1 (by intro k h1 h2; first | exact h2 | exact .inl h2 | exact .inr h2 | exact (h2 : False).elim | (exfalso; (try simp only [] at *); omega))) hx2 (by intro k h1 h2; first | exact h2 | exact .inl h2 | exact .inr h2 | exact (h2 : False).elim | (exfalso; (try simp only [] at *); omega))) hx3 (by intro k h1 h2; first | exact h2 | exact .inl h2 | exact .inr h2 | exact (h2 : False).elim | (exfalso; (try simp only [] at *); omega))) hx4 (by intro k h1 h2; first | exact h2 | exact .inl h2 | exact .inr h2 | exact (h2 : False).elim | (exfalso; (try simp only [] at *); omega))) hx5 (by intro k h1 h2; first | exact h2 | exact .inl h2 | exact .inr h2 | exact (h2 : False).elim | (exfalso; (try simp only [] at *); omega))) hk6 (by intro k h1 h2; first | exact h2 | exact .inl h2 | exact .inr h2 | exact (h2 : False).elim | (exfalso; (try simp only [] at *); omega))) hx7 (by intro k h1 h2; first | exact h2 | exact .inl h2 | exact .inr h2 | exact (h2 : False).elim | (exfalso; (try simp only [] at *); omega)))⟩
-- f49 "(*pedigree/merge.head[pedigree/pedigreeref09.Thing]).pass" params [85] results [] -> [] nfree 0 ntmps 
set_option maxHeartbeats 4000000 in
set_option maxRecDepth 100000 in
theorem passb_c (hb : Nat) (c : Value) (x : TH) (t o : Bool) (w : World) (hB : Blk w hb [c, .int .i8 x.1, .int .i64 x.2, .bool t, .bool o] 112) : Ret Try.prog 49 #[.pointer (some ⟨hb, 0, none⟩)] w fun r w' => r = .tuple #[] ∧ Blk w' hb [c, .int .i8 x.1, .int .i64 x.2, .bool false, .bool o] 112 ∧ Ext (fun k => k = hb) w w' := by
  have hhb := hB.lt
  refine X.enter Try.func49 rfl Try.ntmps49 rfl ?_
  refine X.region ?_
  refine X.opw X.wN rfl (X.move rfl) ?_
  refine X.opw X.wN rfl (X.nilCk rfl) ?_
  refine X.opw X.wN rfl (X.fldB (j := 3) Try.underlying112 rfl rfl Try.sizeOf4 rfl) ?_
  refine X.opE X.wN rfl (X.storeE Try.sizeOf4 hB rfl rfl rfl rfl) ?_
  rintro _ w1 ⟨hB1, hx1, hz1⟩
  refine X.opsEnd ?_
  refine X.end0 Try.func49 Try.results49 ?_
  exact ⟨rfl, hB1, (Ext.andThen (Ext.refl (fun k => k = hb) _) hx1 (by intro k h1 h2; first | exact h2 | exact .inl h2 | exact .inr h2 | exact (h2 : False).elim | (exfalso; (try simp only [] at *); omega)))⟩
end Go.Proofs.Ytgfficbkajcdpaa
