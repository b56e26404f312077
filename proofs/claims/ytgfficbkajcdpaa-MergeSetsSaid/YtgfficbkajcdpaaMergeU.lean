/- The walk of the law MergeSets. -/
import Derived.Test.YtgfficbkajcdpaaMergeT
import Derived.Test.YtgfficbkajcdpaaProg
namespace Go.Proofs.Ytgfficbkajcdpaa
open Go Go.Proofs.Ytgfficbkajcdpaa.X
set_option linter.unusedVariables false
set_option linter.unusedSimpArgs false
theorem single_q {lo hi : Nat} {A : Option Addr} {n c : Nat} {l : List TH} (w : World) (hs : Sl KTh lo hi w A n l) (hnc : n ≤ c) (hhi : hi ≤ w.heap.size) : Ret Try.prog 31 #[.slice A n c] w fun r w' => ∃ q A c, q = mgC (l.take 30).length (LL ((l.take 30).map fun x => [x])) ∧ q.length ≤ 30 ∧ r = .slice A q.length c ∧ q.length ≤ c ∧ Sl KTh w.heap.size w'.heap.size w' A q.length q ∧ Keep w w' :=
  (single_c w hs hnc hhi).mono fun r w' ⟨A, c, h1, h2, h3, h4, h5⟩ => ⟨_, A, c, rfl, h4, h1, h2, h3, h5⟩
theorem rmerge_q {lo hi lo2 hi2 : Nat} {A B : Option Addr} {c n2 c2 : Nat} {x : List TH} (w : World) (hs : Sl KR1 lo hi w A 1 [.slice B n2 c2]) (hc : n2 ≤ c2) (hx : Sl KTh lo2 hi2 w B n2 x) (hx30 : x.length ≤ 30) (hhi : hi ≤ w.heap.size) (hhi2 : hi2 ≤ w.heap.size) : Ret Try.prog 25 #[.slice A 1 c] w fun r w' => ∃ q A c, q = mgC 1 (LL [x]) ∧ q.length ≤ 30 ∧ r = .slice A q.length c ∧ q.length ≤ c ∧ Sl KTh w.heap.size w'.heap.size w' A q.length q ∧ Keep w w' := by
  have ht : totL (LL [x]) 1 ≤ 30 := by simp [totL, LL]; omega
  refine ((RMerge_c w hs (show SlRows KTh lo2 hi2 w [_] [x] from ⟨⟨_, _, _, rfl, hc, hx⟩, trivial⟩) hhi hhi2 (by omega) (by omega)).mono fun _ _ h => fresh_t h).mono fun r w' ⟨A, c, h1, h2, h3, h4⟩ => ⟨_, A, c, rfl, Nat.le_trans (mgC_len _ 1 _ rfl) ht, h1, h2, h3, h4⟩
theorem ronce_q {lo hi : Nat} {A : Option Addr} {n c : Nat} {l : List TH} (w : World) (hs : Sl KTh lo hi w A n l) (hn : l.length ≤ 30) : Ret Try.prog 27 #[.slice A n c] w fun r w' => ∃ q A c, q = onceL none l ∧ q.length ≤ 30 ∧ r = .slice A q.length c ∧ q.length ≤ c ∧ Sl KTh w.heap.size w'.heap.size w' A q.length q ∧ Keep w w' :=
  ((ROnce_c w hs (by have := hs.len; omega)).mono fun _ _ h => fresh_t h).mono fun r w' ⟨A, c, h1, h2, h3, h4⟩ => ⟨_, A, c, rfl, Nat.le_trans (once_len _ _) hn, h1, h2, h3, h4⟩
theorem any_take {x y : TH} {b : List TH} {j : Nat} (hy : b[j]? = some y) : anyT x (b.take (j + 1)) = (anyT x (b.take j) || decide (x.1 = y.1)) := by
  rw [take_at hy]; simp [anyT, List.any_append]
-- f7 "pedigree/pedigreelaw09.MergeSets" params [24, 24] results [4] -> [(ResultVar.tmp 4)] nfree 0 ntmps 129 
set_option maxHeartbeats 4000000 in
set_option maxRecDepth 100000 in
theorem MergeSets_c (w : World) (A1 : Option Addr) (n1 c1 : Nat) (l1 : List TH) (hc1 : n1 ≤ c1) (s1 : Sl (Kd.pair (KN .i8) KI) 0 w.heap.size w A1 n1 l1) (A2 : Option Addr) (n2 c2 : Nat) (l2 : List TH) (hc2 : n2 ≤ c2) (s2 : Sl (Kd.pair (KN .i8) KI) 0 w.heap.size w A2 n2 l2) :
    Ret Try.prog 7 #[.slice A1 n1 c1, .slice A2 n2 c2] w fun r w' => r = .bool true ∧ Keep w w' := by
  have hsx := sl_things s1
  have hsy := sl_things s2
  refine X.enter Try.func7 rfl Try.ntmps7 rfl ?_
  refine X.seq ?_
  refine X.region ?_
  refine X.opw X.wN rfl (X.assign rfl) ?_
  refine X.opsEnd ?_
  refine X.seq ?_
  refine X.region ?_
  refine X.opw X.wN rfl (X.move (v := .slice _ _ _) rfl) ?_
  refine X.opE X.wN rfl (X.callE (single_q _ hsx (by omega) (by omega)) Try.call31 rfl rfl) ?_
  rintro _ w1 ⟨q1, A1, c1, hq1, hl1, rfl, hc1, hs1, hk1⟩
  have hk1' := hk1.size
  refine X.opE X.wN rfl (X.litKF KR1_flat (K := KR1) (xs := [Operand.tmp 15]) (vs := [.slice A1 q1.length c1]) (ys := [.slice A1 q1.length c1]) Try.underlying22 Try.sizeOf24 Try.zeroValue24 rfl rfl rfl rfl rfl (reps_1 rfl rfl)) ?_
  rintro _ w2 ⟨rfl, hs2, hB2, hk2, hz2⟩
  refine X.opE X.wN rfl (X.callE (rmerge_q _ hs2 (by omega) (hs1.keep hk2) (by omega) (by omega) (by omega)) Try.call25 rfl rfl) ?_
  rintro _ w3 ⟨q3, A3, c3, hq3, hl3, rfl, hc3, hs3, hk3⟩
  have hk3' := hk3.size
  refine X.opE X.wN rfl (X.callE (ronce_q _ hs3 (by omega)) Try.call27 rfl rfl) ?_
  rintro _ w4 ⟨q4, A4, c4, hq4, hl4, rfl, hc4, hs4, hk4⟩
  have hk4' := hk4.size
  refine X.opw X.wN rfl (X.move (v := .slice _ _ _) rfl) ?_
  refine X.opE X.wN rfl (X.callE (single_q _ (hsy.keep (((hk1.trans hk2).trans hk3).trans hk4)) (by omega) (by omega)) Try.call31 rfl rfl) ?_
  rintro _ w5 ⟨q5, A5, c5, hq5, hl5, rfl, hc5, hs5, hk5⟩
  have hk5' := hk5.size
  refine X.opE X.wN rfl (X.litKF KR1_flat (K := KR1) (xs := [Operand.tmp 20]) (vs := [.slice A5 q5.length c5]) (ys := [.slice A5 q5.length c5]) Try.underlying22 Try.sizeOf24 Try.zeroValue24 rfl rfl rfl rfl rfl (reps_1 rfl rfl)) ?_
  rintro _ w6 ⟨rfl, hs6, hB6, hk6, hz6⟩
  refine X.opE X.wN rfl (X.callE (rmerge_q _ hs6 (by omega) (hs5.keep hk6) (by omega) (by omega) (by omega)) Try.call25 rfl rfl) ?_
  rintro _ w7 ⟨q7, A7, c7, hq7, hl7, rfl, hc7, hs7, hk7⟩
  have hk7' := hk7.size
  refine X.opE X.wN rfl (X.callE (ronce_q _ hs7 (by omega)) Try.call27 rfl rfl) ?_
  rintro _ w8 ⟨q8, A8, c8, hq8, hl8, rfl, hc8, hs8, hk8⟩
  have hk8' := hk8.size
  refine X.opw X.wN rfl (X.assign (v := .slice _ _ _) rfl) ?_
  refine X.opw X.wN rfl (X.assign (v := .slice _ _ _) rfl) ?_
  refine X.opsEnd ?_
  refine X.seq ?_
  refine X.region ?_
  refine X.opw X.wN rfl (X.move (v := .slice _ _ _) rfl) ?_
  refine X.opE X.wN rfl (X.callE (Of_c w.heap.size _ (hs4.keep (((hk5.trans hk6).trans hk7).trans hk8)) (by omega) (by omega)) Try.call20 rfl rfl) ?_
  rintro _ w9 ⟨bm9, rfl, hC9, hk9⟩
  have hk9' := hk9.size
  refine X.opw X.wN rfl (X.move (v := .slice _ _ _) rfl) ?_
  refine X.opE X.wN rfl (X.callE (Of_c w.heap.size _ (hs8.keep hk9) (by omega) (by omega)) Try.call20 rfl rfl) ?_
  rintro _ w10 ⟨bm10, rfl, hC10, hk10⟩
  have hk10' := hk10.size
  refine X.opE X.wN rfl (X.callE (Both_c _ (hC9.keep hk10) hC10 (by omega) (by omega) (by omega) (by omega) (by omega) cmpOk17) Try.call28 rfl rfl) ?_
  rintro _ w11 ⟨⟨p11, rfl⟩, hC11, hk11⟩
  have hk11' := hk11.size
  refine X.opE X.wN rfl (X.callE (rest_b _ (CV.cur hC11) (by omega) (fun k hk => by (try simp only [] at *); omega) (Nat.lt_of_le_of_lt (heldL_len _ _ _) (by omega))) Try.call15 rfl rfl) ?_
  rintro _ w12 ⟨v12, rfl, hM12, hx12⟩
  have hx12' := hx12.size
  refine X.opw X.wN rfl (X.move rfl) ?_
  refine X.opw X.wN rfl (X.extr rfl rfl) ?_
  refine X.opw X.wN rfl (X.extr rfl rfl) ?_
  refine X.opw X.wN rfl (X.assign rfl) ?_
  refine X.opw X.wN rfl (X.assign (v := .bool _) rfl) ?_
  refine X.opsEnd ?_
  refine X.seq ?_
  refine X.region ?_
  refine X.opw X.wN rfl (X.move (v := .slice _ _ _) rfl) ?_
  refine X.opE X.wN rfl (X.callE (Of_c w.heap.size _ ((hs4.keep ((((((hk5.trans hk6).trans hk7).trans hk8).trans hk9).trans hk10).trans hk11)).ext hx12 (by intros; (try simp only []); omega)) (by omega) (by omega)) Try.call20 rfl rfl) ?_
  rintro _ w13 ⟨bm13, rfl, hC13, hk13⟩
  have hk13' := hk13.size
  refine X.opw X.wN rfl (X.move (v := .slice _ _ _) rfl) ?_
  refine X.opE X.wN rfl (X.callE (Of_c w.heap.size _ (((hs8.keep ((hk9.trans hk10).trans hk11)).ext hx12 (by intros; (try simp only []); omega)).keep hk13) (by omega) (by omega)) Try.call20 rfl rfl) ?_
  rintro _ w14 ⟨bm14, rfl, hC14, hk14⟩
  have hk14' := hk14.size
  refine X.opE X.wN rfl (X.callE (Less_c _ (hC13.keep hk14) hC14 (by omega) (by omega) (by omega) (by omega) (by omega) cmpOk17) Try.call29 rfl rfl) ?_
  rintro _ w15 ⟨⟨p15, rfl⟩, hC15, hk15⟩
  have hk15' := hk15.size
  refine X.opE X.wN rfl (X.callE (rest_b _ (CV.cur hC15) (by omega) (fun k hk => by (try simp only [] at *); omega) (Nat.lt_of_le_of_lt (heldL_len _ _ _) (by omega))) Try.call15 rfl rfl) ?_
  rintro _ w16 ⟨v16, rfl, hM16, hx16⟩
  have hx16' := hx16.size
  refine X.opw X.wN rfl (X.move rfl) ?_
  refine X.opw X.wN rfl (X.extr rfl rfl) ?_
  refine X.opw X.wN rfl (X.extr rfl rfl) ?_
  refine X.opw X.wN rfl (X.assign rfl) ?_
  refine X.opw X.wN rfl (X.assign (v := .bool _) rfl) ?_
  refine X.opsEnd ?_
  refine X.seq ?_
  refine X.seq ?_
  refine X.region ?_
  refine X.opw X.wN rfl (X.move (v := .bool true) rfl) ?_
  refine X.opw X.wN rfl (X.not_ rfl) ?_
  refine X.opw X.wN rfl (X.move (v := .bool false) rfl) ?_
  refine X.opw (X.wG rfl rfl rfl) rfl (X.move (v := .bool true) rfl) ?_
  refine X.opw (X.wG rfl rfl rfl) rfl (X.not_ rfl) ?_
  refine X.opw X.wN rfl (X.pickF (v := .bool false) rfl rfl) ?_
  refine X.opsEnd ?_
  refine X.condF rfl ?_
  refine X.skip ?_
  refine X.seq ?_
  refine X.region ?_
  refine X.opw X.wN rfl (X.assign rfl) ?_
  refine X.opw X.wN rfl (X.assign rfl) ?_
  refine X.opsEnd ?_
  refine X.seq ?_
  refine X.seq ?_
  refine X.region ?_
  refine X.opw X.wN rfl (X.assign rfl) ?_
  refine X.opsEnd ?_
  refine X.block ?_
  -- LOOP live: 0=a, 1=b, 5=x, 7=y, 9=i*, 10=k*, 11=n*
  have ea : q4 = setL l1 := by rw [hq4, hq3, hq1]; rfl
  have eb : q8 = setL l2 := by rw [hq8, hq7, hq5]; rfl
  have hsa : Strict q4 := ea ▸ set_strict l1
  have hsb : Strict q8 := eb ▸ set_strict l2
  obtain ⟨A5, c5, e5, hc5, hs5⟩ := ((hM12.keep ((hk13.trans hk14).trans hk15)).ext hx16 (by intros; (try simp only []); omega) (by intros; (try simp only []); omega)).slF KTh_flat 0 (fun _ _ => Nat.zero_le _)
  obtain ⟨A7, c7, e7, hc7, hs7⟩ := hM16.slF KTh_flat 0 (fun _ _ => Nat.zero_le _)
  subst e5
  subst e7
  have hla := held_filter true q4 q8 hsa hsb
  have hlb := held_filter false q4 q8 hsa hsb
  have hsA := ((((hs4.keep ((((((hk5.trans hk6).trans hk7).trans hk8).trans hk9).trans hk10).trans hk11)).ext hx12 (by intros; (try simp only []); omega)).keep ((hk13.trans hk14).trans hk15)).ext hx16 (by intros; (try simp only []); omega))
  have hsB := ((((hs8.keep ((hk9.trans hk10).trans hk11)).ext hx12 (by intros; (try simp only []); omega)).keep ((hk13.trans hk14).trans hk15)).ext hx16 (by intros; (try simp only []); omega))
  have hn5 := heldL_len true q4 q8
  have hn7 := heldL_len false q4 q8
  have hW0 := (Keep.refl w16)
  refine X.loopL (σ := Nat) (fun s => [(0, .slice A4 q4.length c4), (1, .slice A8 q8.length c8), (5, .slice A5 (heldL true q4 q8).length c5), (7, .slice A7 (heldL false q4 q8).length c7), (9, .int .i64 (((((q4.take s).filter (fun x => anyT x q8 == true)).length : Nat)) : Int)), (10, .int .i64 (((((q4.take s).filter (fun x => anyT x q8 == false)).length : Nat)) : Int)), (11, .int .i64 (s : Int))]) (fun s w' => s ≤ q4.length ∧ Keep w16 w' ∧ Keep w w') (fun s => q4.length - s) 0 ⟨rfl, rfl, rfl, rfl, rfl, rfl, rfl, trivial⟩ ⟨Nat.zero_le _, Keep.refl _, (((((((((((((((hk1.trans hk2).trans hk3).trans hk4).trans hk5).trans hk6).trans hk7).trans hk8).trans hk9).trans hk10).trans hk11).step hx12 (by intros; (try simp only [] at *); omega)).trans hk13).trans hk14).trans hk15).step hx16 (by intros; (try simp only [] at *); omega))⟩ ?_
  rintro i b0 wl ⟨hi, hwl, hk⟩ hback
  have hk' := hk.size
  refine X.seq ?_
  refine X.seq ?_
  refine X.region ?_
  refine X.opw X.wN rfl (X.move (v := .int .i64 _) rfl) ?_
  refine X.opw X.wN rfl (X.move (v := .slice _ _ _) rfl) ?_
  refine X.opw X.wN rfl (X.lenSl Try.underlying24 rfl) ?_
  refine X.opP X.wN rfl rfl (X.lss rfl rfl) (fun h51 => ?_) (fun h51 => ?_)
  · obtain ⟨x, hx⟩ := get2 (l := q4) i rfl (by omega)
    refine X.opsEnd ?_
    refine X.condT rfl ?_
    refine X.skip ?_
    refine X.seq ?_
    refine X.block ?_
    refine X.seq ?_
    refine X.region ?_
    refine X.opw X.wN rfl (X.assign rfl) ?_
    refine X.opsEnd ?_
    refine X.seq ?_
    refine X.seq ?_
    refine X.region ?_
    refine X.opw X.wN rfl (X.assign rfl) ?_
    refine X.opsEnd ?_
    refine X.block ?_
    -- LOOP live: 0=a, 1=b, 5=x, 7=y, 9=i, 10=k, 11=n, 12=there*, 13=m*
    refine X.loopL (σ := Nat) (fun s => [(0, .slice A4 q4.length c4), (1, .slice A8 q8.length c8), (5, .slice A5 (heldL true q4 q8).length c5), (7, .slice A7 (heldL false q4 q8).length c7), (9, .int .i64 (((((q4.take i).filter (fun x => anyT x q8 == true)).length : Nat)) : Int)), (10, .int .i64 (((((q4.take i).filter (fun x => anyT x q8 == false)).length : Nat)) : Int)), (11, .int .i64 (i : Int)), (12, .bool (anyT x (q8.take s))), (13, .int .i64 (s : Int))]) (fun s w' => s ≤ q8.length ∧ Keep wl w' ∧ Keep w w') (fun s => q8.length - s) 0 ⟨rfl, rfl, rfl, rfl, rfl, rfl, rfl, rfl, rfl, trivial⟩ ⟨Nat.zero_le _, Keep.refl _, hk⟩ ?_
    rintro j b2 wm ⟨hj, hwm, hkm⟩ hback2
    have hkm' := hkm.size
    refine X.seq ?_
    refine X.seq ?_
    refine X.region ?_
    refine X.opw X.wN rfl (X.move (v := .int .i64 _) rfl) ?_
    refine X.opw X.wN rfl (X.move (v := .slice _ _ _) rfl) ?_
    refine X.opw X.wN rfl (X.lenSl Try.underlying24 rfl) ?_
    refine X.opP X.wN rfl rfl (X.lss rfl rfl) (fun h57 => ?_) (fun h57 => ?_)
    · obtain ⟨y, hy⟩ := get2 (l := q8) j rfl (by omega)
      refine X.opsEnd ?_
      refine X.condT rfl ?_
      refine X.skip ?_
      refine X.seq ?_
      refine X.block ?_
      refine X.regionD (fun _ => False) 13 (by kernel_rfl) (by kernel_rfl) (fun w17 hk17 hz17 => ?_)
      refine X.dTake 0 rfl (by kernel_rfl) (by kernel_rfl) (by kernel_rfl) (X.dwN rfl) (fun w' hk' => X.move (v := .bool _) rfl) ?_
      refine X.dTake 1 rfl (by kernel_rfl) (by kernel_rfl) (by kernel_rfl) (X.dwN rfl) (fun w' hk' => X.move (v := .bool _) rfl) ?_
      refine X.dFork 61 rfl (fun h61 => ?_) (fun h61 => ?_)
      · refine X.dTakeS 2 rfl (by kernel_rfl) (by kernel_rfl) (by kernel_rfl) rfl rfl rfl rfl ?_
        refine X.dTakeS 3 rfl (by kernel_rfl) (by kernel_rfl) (by kernel_rfl) rfl rfl rfl rfl ?_
        refine X.dTakeS 4 rfl (by kernel_rfl) (by kernel_rfl) (by kernel_rfl) rfl rfl rfl rfl ?_
        refine X.dTakeS 5 rfl (by kernel_rfl) (by kernel_rfl) (by kernel_rfl) rfl rfl rfl rfl ?_
        refine X.dTakeS 6 rfl (by kernel_rfl) (by kernel_rfl) (by kernel_rfl) rfl rfl rfl rfl ?_
        refine X.dSkip (i := 7) (by kernel_rfl) rfl rfl rfl rfl rfl ?_
        refine X.dSkip (i := 8) (by kernel_rfl) rfl rfl rfl rfl rfl ?_
        refine X.dSkip (i := 9) (by kernel_rfl) rfl rfl rfl rfl rfl ?_
        refine X.dSkip (i := 10) (by kernel_rfl) rfl rfl rfl rfl rfl ?_
        refine X.dSkip (i := 11) (by kernel_rfl) rfl rfl rfl rfl rfl ?_
        refine X.dTake 12 rfl (by kernel_rfl) (by kernel_rfl) (by kernel_rfl) (X.dwN rfl) (fun w' hk' => X.pickT (v := .bool true) rfl rfl) ?_
        refine X.dStep (i := 13) (by kernel_rfl) rfl (X.dwN rfl) (X.assign (v := .bool true) rfl) (fun h => absurd h (by decide)) ?_
        refine X.dEnd (by kernel_rfl) ?_
        refine X.inBlock ?_
        refine X.region ?_
        refine X.opw X.wN rfl (X.move (v := .int .i64 _) rfl) ?_
        refine X.opw X.wN rfl (X.add rfl rfl (X.w_i64 (by omega))) ?_
        refine X.opw X.wN rfl (X.assign (v := .int .i64 _) rfl) ?_
        refine X.opsEnd ?_
        have hany : anyT x (q8.take (j + 1)) = true := by rw [any_take hy, h61]; rfl
        refine hback2 (j + 1) _ _ ⟨(by first | rfl | (rw [hany]; rfl)), (by first | rfl | (rw [hany]; rfl)), (by first | rfl | (rw [hany]; rfl)), (by first | rfl | (rw [hany]; rfl)), (by first | rfl | (rw [hany]; rfl)), (by first | rfl | (rw [hany]; rfl)), (by first | rfl | (rw [hany]; rfl)), (by first | rfl | (rw [hany]; rfl)), (by first | rfl | (rw [hany]; rfl)), trivial⟩ ⟨by omega, (hwm.trans hk17), (hkm.trans hk17)⟩ (by omega)
      · refine X.dTake 2 rfl (by kernel_rfl) (by kernel_rfl) (by kernel_rfl) (X.dwG rfl rfl rfl) (fun w' hk' => X.move (v := .slice _ _ _) rfl) ?_
        refine X.dTake 3 rfl (by kernel_rfl) (by kernel_rfl) (by kernel_rfl) (X.dwG rfl rfl rfl) (fun w' hk' => X.move (v := .int .i64 _) rfl) ?_
        refine X.dTake 4 rfl (by kernel_rfl) (by kernel_rfl) (by kernel_rfl) (X.dwG rfl rfl rfl) (fun w' hk' => X.idxS (((hsA.keep hwl).keep hwm).keep (hk17.trans hk')) Try.underlying24 Try.sizeOf29 rfl rfl ⟨by omega, by omega⟩) ?_
        refine X.dTake 5 rfl (by kernel_rfl) (by kernel_rfl) (by kernel_rfl) (X.dwG rfl rfl rfl) (fun w' hk' => X.loadSN Try.isAgg29 Try.sizeOf29 (((hsA.keep hwl).keep hwm).keep (hk17.trans hk')) hx rfl (fun _ h => h.1) rfl) ?_
        refine X.dTake 6 rfl (by kernel_rfl) (by kernel_rfl) (by kernel_rfl) (X.dwG rfl rfl rfl) (fun w' hk' => X.move (v := .slice _ _ _) rfl) ?_
        refine X.dTake 7 rfl (by kernel_rfl) (by kernel_rfl) (by kernel_rfl) (X.dwG rfl rfl rfl) (fun w' hk' => X.move (v := .int .i64 _) rfl) ?_
        refine X.dTake 8 rfl (by kernel_rfl) (by kernel_rfl) (by kernel_rfl) (X.dwG rfl rfl rfl) (fun w' hk' => X.idxS (((hsB.keep hwl).keep hwm).keep (hk17.trans hk')) Try.underlying24 Try.sizeOf29 rfl rfl ⟨by omega, by omega⟩) ?_
        refine X.dTake 9 rfl (by kernel_rfl) (by kernel_rfl) (by kernel_rfl) (X.dwG rfl rfl rfl) (fun w' hk' => X.loadSN Try.isAgg29 Try.sizeOf29 (((hsB.keep hwl).keep hwm).keep (hk17.trans hk')) hy rfl (fun _ h => h.1) rfl) ?_
        refine X.dE (i := 10) (by kernel_rfl) rfl (X.dwG rfl rfl rfl) (X.callE (Compare_c x y _) Try.call17 rfl rfl) (by rintro _ w18 ⟨nc18, rfl, hlt18, hgt18, hk18⟩ _; exact hk18.mono (fun _ _ h => h.elim)) ?_
        rintro _ w18 ⟨nc18, rfl, hlt18, hgt18, hk18⟩
        have hk18' := hk18.size
        refine X.dTake 11 rfl (by kernel_rfl) (by kernel_rfl) (by kernel_rfl) (X.dwG rfl rfl rfl) (fun w' hk' => X.eqI rfl rfl) ?_
        refine X.dTake 12 rfl (by kernel_rfl) (by kernel_rfl) (by kernel_rfl) (X.dwN rfl) (fun w' hk' => X.pickF (v := .bool _) rfl rfl) ?_
        refine X.dStep (i := 13) (by kernel_rfl) rfl (X.dwN rfl) (X.assign (v := .bool _) rfl) (fun h => absurd h (by decide)) ?_
        refine X.dEnd (by kernel_rfl) ?_
        refine X.inBlock ?_
        refine X.region ?_
        refine X.opw X.wN rfl (X.move (v := .int .i64 _) rfl) ?_
        refine X.opw X.wN rfl (X.add rfl rfl (X.w_i64 (by omega))) ?_
        refine X.opw X.wN rfl (X.assign (v := .int .i64 _) rfl) ?_
        refine X.opsEnd ?_
        have hany : anyT x (q8.take (j + 1)) = decide (nc18 = 0) := by rw [any_take hy, h61, Bool.false_or]; exact decide_eq_decide.2 (cmp_eq hlt18 hgt18).symm
        refine hback2 (j + 1) _ _ ⟨(by first | rfl | (rw [hany]; rfl)), (by first | rfl | (rw [hany]; rfl)), (by first | rfl | (rw [hany]; rfl)), (by first | rfl | (rw [hany]; rfl)), (by first | rfl | (rw [hany]; rfl)), (by first | rfl | (rw [hany]; rfl)), (by first | rfl | (rw [hany]; rfl)), (by first | rfl | (rw [hany]; rfl)), (by first | rfl | (rw [hany]; rfl)), trivial⟩ ⟨by omega, ((hwm.trans hk17).trans hk18), ((hkm.trans hk17).trans hk18)⟩ (by omega)
    · have hjb : q8.length ≤ j := by omega
      rw [List.take_of_length_le hjb]
      refine X.opsEnd ?_
      refine X.condF rfl ?_
      refine X.exit rfl ?_
      refine X.block ?_
      refine X.seq ?_
      refine X.regionD (fun _ => False) 19 (by kernel_rfl) (by kernel_rfl) (fun w19 hk19 hz19 => ?_)
      refine X.dTake 0 rfl (by kernel_rfl) (by kernel_rfl) (by kernel_rfl) (X.dwN rfl) (fun w' hk' => X.move (v := .bool _) rfl) ?_
      refine X.dTake 1 rfl (by kernel_rfl) (by kernel_rfl) (by kernel_rfl) (X.dwN rfl) (fun w' hk' => X.move (v := .bool _) rfl) ?_
      refine X.dFork 75 rfl (fun h75 => ?_) (fun h75 => ?_)
      · have hf : (anyT x q8 == true) = true := by rw [h75]; rfl
        obtain ⟨hfa, hfb⟩ := filter_at (f := fun x => anyT x q8 == true) hx hf
        rw [← hla] at hfa
        have hno := filter_no (f := fun x => anyT x q8 == false) hx (show (anyT x q8 == false) = false by rw [h75]; rfl)
        have hfl := (List.getElem?_eq_some_iff.1 hfa).1
        refine X.dTake 2 rfl (by kernel_rfl) (by kernel_rfl) (by kernel_rfl) (X.dwG rfl rfl rfl) (fun w' hk' => X.move (v := .int .i64 _) rfl) ?_
        refine X.dTake 3 rfl (by kernel_rfl) (by kernel_rfl) (by kernel_rfl) (X.dwG rfl rfl rfl) (fun w' hk' => X.move (v := .slice _ _ _) rfl) ?_
        refine X.dTake 4 rfl (by kernel_rfl) (by kernel_rfl) (by kernel_rfl) (X.dwG rfl rfl rfl) (fun w' hk' => X.lenSl Try.underlying24 rfl) ?_
        refine X.dTake 5 rfl (by kernel_rfl) (by kernel_rfl) (by kernel_rfl) (X.dwG rfl rfl rfl) (fun w' hk' => X.lss rfl rfl) ?_
        refine X.dTake 6 rfl (by kernel_rfl) (by kernel_rfl) (by kernel_rfl) (X.dwN rfl) (fun w' hk' => X.pickT (v := .bool _) rfl rfl) ?_
        refine X.dTake 7 rfl (by kernel_rfl) (by kernel_rfl) (by kernel_rfl) (X.dwN rfl) (fun w' hk' => X.move (v := .bool _) rfl) ?_
        refine X.dFork 81 rfl (fun h81 => ?_) (fun h81 => ?_)
        · refine X.dTake 8 rfl (by kernel_rfl) (by kernel_rfl) (by kernel_rfl) (X.dwG rfl rfl rfl) (fun w' hk' => X.move (v := .slice _ _ _) rfl) ?_
          refine X.dTake 9 rfl (by kernel_rfl) (by kernel_rfl) (by kernel_rfl) (X.dwG rfl rfl rfl) (fun w' hk' => X.move (v := .int .i64 _) rfl) ?_
          refine X.dTake 10 rfl (by kernel_rfl) (by kernel_rfl) (by kernel_rfl) (X.dwG rfl rfl rfl) (fun w' hk' => X.idxS (((hs5.keep hwl).keep hwm).keep (hk19.trans hk')) Try.underlying24 Try.sizeOf29 rfl rfl ⟨by omega, by omega⟩) ?_
          refine X.dTake 11 rfl (by kernel_rfl) (by kernel_rfl) (by kernel_rfl) (X.dwG rfl rfl rfl) (fun w' hk' => X.loadSN Try.isAgg29 Try.sizeOf29 (((hs5.keep hwl).keep hwm).keep (hk19.trans hk')) hfa rfl (fun _ h => h.1) rfl) ?_
          refine X.dTake 12 rfl (by kernel_rfl) (by kernel_rfl) (by kernel_rfl) (X.dwG rfl rfl rfl) (fun w' hk' => X.move (v := .slice _ _ _) rfl) ?_
          refine X.dTake 13 rfl (by kernel_rfl) (by kernel_rfl) (by kernel_rfl) (X.dwG rfl rfl rfl) (fun w' hk' => X.move (v := .int .i64 _) rfl) ?_
          refine X.dTake 14 rfl (by kernel_rfl) (by kernel_rfl) (by kernel_rfl) (X.dwG rfl rfl rfl) (fun w' hk' => X.idxS (((hsA.keep hwl).keep hwm).keep (hk19.trans hk')) Try.underlying24 Try.sizeOf29 rfl rfl ⟨by omega, by omega⟩) ?_
          refine X.dTake 15 rfl (by kernel_rfl) (by kernel_rfl) (by kernel_rfl) (X.dwG rfl rfl rfl) (fun w' hk' => X.loadSN Try.isAgg29 Try.sizeOf29 (((hsA.keep hwl).keep hwm).keep (hk19.trans hk')) hx rfl (fun _ h => h.1) rfl) ?_
          refine X.dTake 16 rfl (by kernel_rfl) (by kernel_rfl) (by kernel_rfl) (X.dwG rfl rfl rfl) (fun w' hk' => X.eqA eqT_guard rfl rfl (eqT x x _)) ?_
          refine X.dTake 17 rfl (by kernel_rfl) (by kernel_rfl) (by kernel_rfl) (X.dwN rfl) (fun w' hk' => X.pickT (v := .bool _) rfl rfl) ?_
          refine X.dTake 18 rfl (by kernel_rfl) (by kernel_rfl) (by kernel_rfl) (X.dwN rfl) (fun w' hk' => X.assign (v := .bool _) rfl) ?_
          refine X.dEnd (by kernel_rfl) ?_
          refine X.condB rfl (fun hc => ?_) (fun hc => ?_)
          · refine X.region ?_
            refine X.opw X.wN rfl (X.move (v := .int .i64 _) rfl) ?_
            refine X.opw X.wN rfl (X.add (c := ((((q4.take i).filter (fun x => anyT x q8 == true)).length + 1 : Nat) : Int)) rfl rfl (by rw [X.w_i64 (by omega)]; omega)) ?_
            refine X.opw X.wN rfl (X.assign (v := .int .i64 _) rfl) ?_
            refine X.opsEnd ?_
            refine X.inBlock ?_
            refine X.inBlock ?_
            refine X.region ?_
            refine X.opw X.wN rfl (X.move (v := .int .i64 _) rfl) ?_
            refine X.opw X.wN rfl (X.add rfl rfl (X.w_i64 (by omega))) ?_
            refine X.opw X.wN rfl (X.assign (v := .int .i64 _) rfl) ?_
            refine X.opsEnd ?_
            refine hback (i + 1) _ _ ⟨(by first | rfl | (rw [hfb]; rfl) | (rw [hno]; rfl)), (by first | rfl | (rw [hfb]; rfl) | (rw [hno]; rfl)), (by first | rfl | (rw [hfb]; rfl) | (rw [hno]; rfl)), (by first | rfl | (rw [hfb]; rfl) | (rw [hno]; rfl)), (by first | rfl | (rw [hfb]; rfl) | (rw [hno]; rfl)), (by first | rfl | (rw [hfb]; rfl) | (rw [hno]; rfl)), (by first | rfl | (rw [hfb]; rfl) | (rw [hno]; rfl)), trivial⟩ ⟨by omega, ((hwl.trans hwm).trans hk19), (hkm.trans hk19)⟩ (by omega)
          · simp at hc
        · exact absurd (of_decide_eq_false h81) (by omega)
      · have hf : (anyT x q8 == false) = true := by rw [h75]; rfl
        obtain ⟨hfa, hfb⟩ := filter_at (f := fun x => anyT x q8 == false) hx hf
        rw [← hlb] at hfa
        have hno := filter_no (f := fun x => anyT x q8 == true) hx (show (anyT x q8 == true) = false by rw [h75]; rfl)
        have hfl := (List.getElem?_eq_some_iff.1 hfa).1
        refine X.dTakeS 2 rfl (by kernel_rfl) (by kernel_rfl) (by kernel_rfl) rfl rfl rfl rfl ?_
        refine X.dSkip (i := 3) (by kernel_rfl) rfl rfl rfl rfl rfl ?_
        refine X.dSkip (i := 4) (by kernel_rfl) rfl rfl rfl rfl rfl ?_
        refine X.dSkip (i := 5) (by kernel_rfl) rfl rfl rfl rfl rfl ?_
        refine X.dTake 6 rfl (by kernel_rfl) (by kernel_rfl) (by kernel_rfl) (X.dwN rfl) (fun w' hk' => X.pickF (v := .bool false) rfl rfl) ?_
        refine X.dTake 7 rfl (by kernel_rfl) (by kernel_rfl) (by kernel_rfl) (X.dwN rfl) (fun w' hk' => X.move (v := .bool false) rfl) ?_
        refine X.dTakeS 8 rfl (by kernel_rfl) (by kernel_rfl) (by kernel_rfl) rfl rfl rfl rfl ?_
        refine X.dTakeS 9 rfl (by kernel_rfl) (by kernel_rfl) (by kernel_rfl) rfl rfl rfl rfl ?_
        refine X.dTakeS 10 rfl (by kernel_rfl) (by kernel_rfl) (by kernel_rfl) rfl rfl rfl rfl ?_
        refine X.dTakeS 11 rfl (by kernel_rfl) (by kernel_rfl) (by kernel_rfl) rfl rfl rfl rfl ?_
        refine X.dTakeS 12 rfl (by kernel_rfl) (by kernel_rfl) (by kernel_rfl) rfl rfl rfl rfl ?_
        refine X.dSkip (i := 13) (by kernel_rfl) rfl rfl rfl rfl rfl ?_
        refine X.dSkip (i := 14) (by kernel_rfl) rfl rfl rfl rfl rfl ?_
        refine X.dSkip (i := 15) (by kernel_rfl) rfl rfl rfl rfl rfl ?_
        refine X.dSkip (i := 16) (by kernel_rfl) rfl rfl rfl rfl rfl ?_
        refine X.dTake 17 rfl (by kernel_rfl) (by kernel_rfl) (by kernel_rfl) (X.dwN rfl) (fun w' hk' => X.pickF (v := .bool false) rfl rfl) ?_
        refine X.dTake 18 rfl (by kernel_rfl) (by kernel_rfl) (by kernel_rfl) (X.dwN rfl) (fun w' hk' => X.assign (v := .bool false) rfl) ?_
        refine X.dEnd (by kernel_rfl) ?_
        refine X.condF rfl ?_
        refine X.seq ?_
        refine X.regionD (fun _ => False) 20 (by kernel_rfl) (by kernel_rfl) (fun w20 hk20 hz20 => ?_)
        refine X.dTake 0 rfl (by kernel_rfl) (by kernel_rfl) (by kernel_rfl) (X.dwN rfl) (fun w' hk' => X.move (v := .bool _) rfl) ?_
        refine X.dTake 1 rfl (by kernel_rfl) (by kernel_rfl) (by kernel_rfl) (X.dwN rfl) (fun w' hk' => X.not_ rfl) ?_
        refine X.dTake 2 rfl (by kernel_rfl) (by kernel_rfl) (by kernel_rfl) (X.dwN rfl) (fun w' hk' => X.move (v := .bool _) rfl) ?_
        refine X.dFork 97 rfl (fun h97 => ?_) (fun h97 => ?_)
        · refine X.dTake 3 rfl (by kernel_rfl) (by kernel_rfl) (by kernel_rfl) (X.dwG rfl rfl rfl) (fun w' hk' => X.move (v := .int .i64 _) rfl) ?_
          refine X.dTake 4 rfl (by kernel_rfl) (by kernel_rfl) (by kernel_rfl) (X.dwG rfl rfl rfl) (fun w' hk' => X.move (v := .slice _ _ _) rfl) ?_
          refine X.dTake 5 rfl (by kernel_rfl) (by kernel_rfl) (by kernel_rfl) (X.dwG rfl rfl rfl) (fun w' hk' => X.lenSl Try.underlying24 rfl) ?_
          refine X.dTake 6 rfl (by kernel_rfl) (by kernel_rfl) (by kernel_rfl) (X.dwG rfl rfl rfl) (fun w' hk' => X.lss rfl rfl) ?_
          refine X.dTake 7 rfl (by kernel_rfl) (by kernel_rfl) (by kernel_rfl) (X.dwN rfl) (fun w' hk' => X.pickT (v := .bool _) rfl rfl) ?_
          refine X.dTake 8 rfl (by kernel_rfl) (by kernel_rfl) (by kernel_rfl) (X.dwN rfl) (fun w' hk' => X.move (v := .bool _) rfl) ?_
          refine X.dFork 103 rfl (fun h103 => ?_) (fun h103 => ?_)
          · refine X.dTake 9 rfl (by kernel_rfl) (by kernel_rfl) (by kernel_rfl) (X.dwG rfl rfl rfl) (fun w' hk' => X.move (v := .slice _ _ _) rfl) ?_
            refine X.dTake 10 rfl (by kernel_rfl) (by kernel_rfl) (by kernel_rfl) (X.dwG rfl rfl rfl) (fun w' hk' => X.move (v := .int .i64 _) rfl) ?_
            refine X.dTake 11 rfl (by kernel_rfl) (by kernel_rfl) (by kernel_rfl) (X.dwG rfl rfl rfl) (fun w' hk' => X.idxS (((hs7.keep hwl).keep hwm).keep ((hk19.trans hk20).trans hk')) Try.underlying24 Try.sizeOf29 rfl rfl ⟨by omega, by omega⟩) ?_
            refine X.dTake 12 rfl (by kernel_rfl) (by kernel_rfl) (by kernel_rfl) (X.dwG rfl rfl rfl) (fun w' hk' => X.loadSN Try.isAgg29 Try.sizeOf29 (((hs7.keep hwl).keep hwm).keep ((hk19.trans hk20).trans hk')) hfa rfl (fun _ h => h.1) rfl) ?_
            refine X.dTake 13 rfl (by kernel_rfl) (by kernel_rfl) (by kernel_rfl) (X.dwG rfl rfl rfl) (fun w' hk' => X.move (v := .slice _ _ _) rfl) ?_
            refine X.dTake 14 rfl (by kernel_rfl) (by kernel_rfl) (by kernel_rfl) (X.dwG rfl rfl rfl) (fun w' hk' => X.move (v := .int .i64 _) rfl) ?_
            refine X.dTake 15 rfl (by kernel_rfl) (by kernel_rfl) (by kernel_rfl) (X.dwG rfl rfl rfl) (fun w' hk' => X.idxS (((hsA.keep hwl).keep hwm).keep ((hk19.trans hk20).trans hk')) Try.underlying24 Try.sizeOf29 rfl rfl ⟨by omega, by omega⟩) ?_
            refine X.dTake 16 rfl (by kernel_rfl) (by kernel_rfl) (by kernel_rfl) (X.dwG rfl rfl rfl) (fun w' hk' => X.loadSN Try.isAgg29 Try.sizeOf29 (((hsA.keep hwl).keep hwm).keep ((hk19.trans hk20).trans hk')) hx rfl (fun _ h => h.1) rfl) ?_
            refine X.dTake 17 rfl (by kernel_rfl) (by kernel_rfl) (by kernel_rfl) (X.dwG rfl rfl rfl) (fun w' hk' => X.eqA eqT_guard rfl rfl (eqT x x _)) ?_
            refine X.dTake 18 rfl (by kernel_rfl) (by kernel_rfl) (by kernel_rfl) (X.dwN rfl) (fun w' hk' => X.pickT (v := .bool _) rfl rfl) ?_
            refine X.dTake 19 rfl (by kernel_rfl) (by kernel_rfl) (by kernel_rfl) (X.dwN rfl) (fun w' hk' => X.assign (v := .bool _) rfl) ?_
            refine X.dEnd (by kernel_rfl) ?_
            refine X.condB rfl (fun hc => ?_) (fun hc => ?_)
            · refine X.region ?_
              refine X.opw X.wN rfl (X.move (v := .int .i64 _) rfl) ?_
              refine X.opw X.wN rfl (X.add (c := ((((q4.take i).filter (fun x => anyT x q8 == false)).length + 1 : Nat) : Int)) rfl rfl (by rw [X.w_i64 (by omega)]; omega)) ?_
              refine X.opw X.wN rfl (X.assign (v := .int .i64 _) rfl) ?_
              refine X.opsEnd ?_
              refine X.inBlock ?_
              refine X.inBlock ?_
              refine X.region ?_
              refine X.opw X.wN rfl (X.move (v := .int .i64 _) rfl) ?_
              refine X.opw X.wN rfl (X.add rfl rfl (X.w_i64 (by omega))) ?_
              refine X.opw X.wN rfl (X.assign (v := .int .i64 _) rfl) ?_
              refine X.opsEnd ?_
              refine hback (i + 1) _ _ ⟨(by first | rfl | (rw [hfb]; rfl) | (rw [hno]; rfl)), (by first | rfl | (rw [hfb]; rfl) | (rw [hno]; rfl)), (by first | rfl | (rw [hfb]; rfl) | (rw [hno]; rfl)), (by first | rfl | (rw [hfb]; rfl) | (rw [hno]; rfl)), (by first | rfl | (rw [hfb]; rfl) | (rw [hno]; rfl)), (by first | rfl | (rw [hfb]; rfl) | (rw [hno]; rfl)), (by first | rfl | (rw [hfb]; rfl) | (rw [hno]; rfl)), trivial⟩ ⟨by omega, (((hwl.trans hwm).trans hk19).trans hk20), ((hkm.trans hk19).trans hk20)⟩ (by omega)
            · simp at hc
          · exact absurd (of_decide_eq_false h103) (by omega)
        · rw [h75] at h97; simp at h97
  · have hk5 : (((q4.take i).filter (fun x => anyT x q8 == true)).length : Int) = ((heldL true q4 q8).length : Int) := by rw [hla, List.take_of_length_le (show q4.length ≤ i by omega)]
    have hk7 : (((q4.take i).filter (fun x => anyT x q8 == false)).length : Int) = ((heldL false q4 q8).length : Int) := by rw [hlb, List.take_of_length_le (show q4.length ≤ i by omega)]
    refine X.opsEnd ?_
    refine X.condF rfl ?_
    refine X.exit rfl ?_
    refine X.seq ?_
    refine X.region ?_
    refine X.opw X.wN rfl (X.move (v := .int .i64 _) rfl) ?_
    refine X.opw X.wN rfl (X.move (v := .slice _ _ _) rfl) ?_
    refine X.opw X.wN rfl (X.lenSl Try.underlying24 rfl) ?_
    refine X.opP X.wN rfl rfl (X.eqI rfl rfl) (fun h119 => ?_) (fun h119 => ?_)
    · refine X.opw X.wN rfl (X.move (v := .bool true) rfl) ?_
      refine X.opw (X.wG rfl rfl rfl) rfl (X.move (v := .int .i64 _) rfl) ?_
      refine X.opw (X.wG rfl rfl rfl) rfl (X.move (v := .slice _ _ _) rfl) ?_
      refine X.opw (X.wG rfl rfl rfl) rfl (X.lenSl Try.underlying24 rfl) ?_
      refine X.opP (X.wG rfl rfl rfl) rfl rfl (X.eqI rfl rfl) (fun h124 => ?_) (fun h124 => ?_)
      · refine X.opw X.wN rfl (X.pickT (v := .bool true) rfl rfl) ?_
        refine X.opw X.wN rfl (X.move (v := .bool true) rfl) ?_
        refine X.opE (X.wG rfl rfl rfl) rfl (X.callE (alive_c _) Try.call14 rfl rfl) ?_
        rintro _ w21 ⟨rfl, hk21⟩
        have hk21' := hk21.size
        refine X.opw X.wN rfl (X.pickT (v := .bool _) rfl rfl) ?_
        refine X.opw X.wN rfl (X.assign (v := .bool _) rfl) ?_
        refine X.opsEnd ?_
        refine X.ret1 (v := (.bool _)) Try.func7 Try.results7 rfl ?_
        exact ⟨rfl, (hk.trans hk21)⟩
      · exact absurd hk7 h124
    · exact absurd hk5 h119
end Go.Proofs.Ytgfficbkajcdpaa
