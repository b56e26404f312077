/- The walk of the law MergeMerges. -/
import Derived.Test.YtgfficbkajcdpaaMergeQ
import Derived.Test.YtgfficbkajcdpaaXSls
import Derived.Test.YtgfficbkajcdpaaProg
namespace Go.Proofs.Ytgfficbkajcdpaa
open Go Go.Proofs.Ytgfficbkajcdpaa.X
set_option linter.unusedVariables false
set_option linter.unusedSimpArgs false
theorem rows_things {lo hi : Nat} {w : World} : ∀ {vs : List Value} {ls : List (List TH)}, SlRows (Kd.pair (KN .i8) KI) lo hi w vs ls → SlRows KTh lo hi w vs ls
  | [], [], _ => trivial
  | _ :: _, _ :: _, h => by
    obtain ⟨⟨A, n, c, e, h1, h2⟩, h3⟩ := h
    exact ⟨⟨A, n, c, e, h1, sl_things h2⟩, rows_things h3⟩
  | [], _ :: _, h => h.elim
  | _ :: _, [], h => h.elim
theorem totL_le {qs : List (List TH)} (h : ∀ l ∈ qs, l.length ≤ 30) : ∀ n, totL (LL qs) n ≤ 30 * n
  | 0 => Nat.le_refl _
  | n + 1 => by
    have := totL_le h n
    have h2 : (LL qs n).length ≤ 30 := by
      rw [LL, List.getD_eq_getElem?_getD]
      cases hq : qs[n]? with
      | none => simp
      | some l => exact h l (List.mem_of_getElem? hq)
    rw [totL]; omega
theorem mg_lt {qs : List (List TH)} (h : ∀ l ∈ qs, l.length ≤ 30) {n : Nat} (hn : n ≤ 6) : (mgC n (LL qs)).length < 2000 := by
  have := mgC_len _ n (LL qs) rfl
  have := totL_le h n
  omega
-- f5 "pedigree/pedigreelaw09.MergeMerges" params [22] results [4] -> [(ResultVar.tmp 2)] nfree 0 ntmps 55 nam
set_option maxHeartbeats 4000000 in
set_option maxRecDepth 100000 in
theorem MergeMerges_c (w : World) (A1 : Option Addr) (n1 c1 : Nat) (l1 : List (List TH)) (hc1 : n1 ≤ c1) (s1 : Sl (Kd.slice (Kd.pair (KN .i8) KI)) 0 w.heap.size w A1 n1 l1) :
    Ret Try.prog 5 #[.slice A1 n1 c1] w fun r w' => r = .bool true ∧ Keep w w' := by
  obtain ⟨vs, hs, hrows0⟩ := s1.rows
  have hrows := rows_things hrows0
  refine X.enter Try.func5 rfl Try.ntmps5 rfl ?_
  refine X.seq ?_
  refine X.region ?_
  refine X.opw X.wN rfl (X.assign rfl) ?_
  refine X.opsEnd ?_
  refine X.seq ?_
  refine X.region ?_
  refine X.opw X.wN rfl (X.move (v := .slice _ _ _) rfl) ?_
  refine X.opE X.wN rfl (X.callE (cut_c _ hs hrows (Nat.le_refl _)) Try.call12 rfl rfl) ?_
  rintro _ w1 ⟨us, qs, A1, c1, rfl, hc1, hs1, hr1, _, hu6, hq30, hk1⟩
  have hk1' := hk1.size
  refine X.opw X.wN rfl (X.assign (v := .slice _ _ _) rfl) ?_
  refine X.opsEnd ?_
  refine X.seq ?_
  refine X.region ?_
  refine X.opw X.wN rfl (X.move (v := .slice _ _ _) rfl) ?_
  refine X.opE X.wN rfl (X.callE (cursors_c _ hs1 hr1 (by omega) (by omega) hq30) Try.call18 rfl rfl) ?_
  rintro _ w2 ⟨cs, A2, c2, Tj, rfl, hc2, hs2, hTj, hdis, hcv, hk2⟩
  have hk2' := hk2.size
  refine X.opE X.wN rfl (X.callE (Merge_c (B := w1.heap.size) (a := w1.heap.size) (L := LL qs) (Tj := Tj) _ hs2 (by omega) (Nat.le_refl _) (by omega) (fun j hj k hk => by have := hTj j hj k hk; omega) hdis (fun j y h => (hcv j y h)) cmp17) Try.call16 rfl rfl) ?_
  rintro _ w3 ⟨⟨p3, rfl⟩, hC3, hk3⟩
  have hk3' := hk3.size
  refine X.opE X.wN rfl (X.callE (rest_b _ (CV.cur hC3) (by omega) (fun k hk => by (try simp only [] at *); omega) (mg_lt hq30 hu6)) Try.call15 rfl rfl) ?_
  rintro _ w4 ⟨v4, rfl, hM4, hx4⟩
  have hx4' := hx4.size
  refine X.opw X.wN rfl (X.move rfl) ?_
  refine X.opw X.wN rfl (X.extr rfl rfl) ?_
  refine X.opw X.wN rfl (X.extr rfl rfl) ?_
  refine X.opw X.wN rfl (X.assign rfl) ?_
  refine X.opw X.wN rfl (X.assign (v := .bool _) rfl) ?_
  refine X.opsEnd ?_
  refine X.seq ?_
  refine X.seq ?_
  refine X.region ?_
  refine X.opw X.wN rfl (X.move (v := .bool true) rfl) ?_
  refine X.opw X.wN rfl (X.not_ rfl) ?_
  refine X.opw X.wN rfl (X.move (v := .bool false) rfl) ?_
  refine X.opw (X.wG rfl rfl rfl) rfl (X.move rfl) ?_
  refine X.opw (X.wG rfl rfl rfl) rfl (X.move (v := .slice _ _ _) rfl) ?_
  refine X.opE (X.wG rfl rfl rfl) rfl (X.callE ((RMerge_c _ ((hs1.keep (hk2.trans hk3)).ext hx4 (by intros; (try simp only []); omega)) (SlRows.ext hx4 (by intro k h1 h2; (try simp only []); omega) (SlRows.keep hk3 (SlRows.keep hk2 hr1))) (by omega) (by omega) (by omega) (by have := totL_le hq30 us.length; omega)).mono fun _ _ h => fresh_t h) Try.call25 rfl rfl) ?_
  rintro _ w5 ⟨A5, c5, rfl, hc5, hs5, hk5⟩
  have hk5' := hk5.size
  have q7 := (hM4.keep hk5).slF KTh_flat 0 (fun _ _ => Nat.zero_le _)
  obtain ⟨A7, c7, rfl, hc7, hs7⟩ := q7
  refine X.opE (X.wG rfl rfl rfl) rfl (X.callE (Same_c _ hs7 hs5) Try.call22 rfl rfl) ?_
  rintro _ w6 ⟨rfl, hk6⟩
  have hk6' := hk6.size
  refine X.opw (X.wG rfl rfl rfl) rfl (X.not_ rfl) ?_
  refine X.opw X.wN rfl (X.pickF (v := .bool _) rfl rfl) ?_
  refine X.opsEnd ?_
  refine X.condB rfl (fun hc => ?_) (fun hc => ?_)
  · simp at hc
  · refine X.skip ?_
    refine X.seq ?_
    refine X.seq ?_
    refine X.region ?_
    refine X.opw X.wN rfl (X.assign rfl) ?_
    refine X.opsEnd ?_
    refine X.block ?_
    -- LOOP live: 0=l, 5=i*
    refine X.loopL (σ := Nat) (fun s => [(0, .slice A1 us.length c1), (5, .int .i64 (s : Int))]) (fun s w' => s ≤ us.length ∧ Sl KR1 0 w1.heap.size w' A1 us.length us ∧ SlRows KTh 0 w.heap.size w' us qs ∧ w1.heap.size ≤ w'.heap.size ∧ Keep w w') (fun s => us.length - s) 0 ⟨rfl, rfl, trivial⟩ ⟨Nat.zero_le _, (((hs1.keep (hk2.trans hk3)).ext hx4 (by intros; (try simp only []); omega)).keep (hk5.trans hk6)), (SlRows.keep hk6 (SlRows.keep hk5 (SlRows.ext hx4 (by intro k h1 h2; (try simp only []); omega) (SlRows.keep hk3 (SlRows.keep hk2 hr1))))), by omega, (((((hk1.trans hk2).trans hk3).step hx4 (by intros; (try simp only [] at *); omega)).trans hk5).trans hk6)⟩ ?_
    rintro i b0 wl ⟨hi, hsl, hrl, hwl, hk⟩ hback
    have hk' := hk.size
    refine X.seq ?_
    refine X.seq ?_
    refine X.region ?_
    refine X.opw X.wN rfl (X.move (v := .int .i64 _) rfl) ?_
    refine X.opw X.wN rfl (X.move (v := .slice _ _ _) rfl) ?_
    refine X.opw X.wN rfl (X.lenSl Try.underlying22 rfl) ?_
    refine X.opP X.wN rfl rfl (X.lss rfl rfl) (fun h29 => ?_) (fun h29 => ?_)
    · obtain ⟨vi, hvi⟩ := getV (vs := us) i rfl (by omega)
      obtain ⟨li, Ai, ni, ci, hli, rfl, hnci, hsi⟩ := SlRows.get hrl hvi
      have hlen30 := hq30 li (List.mem_of_getElem? hli)
      have hlil := hsi.len
      refine X.opsEnd ?_
      refine X.condT rfl ?_
      refine X.skip ?_
      refine X.seq ?_
      refine X.block ?_
      refine X.seq ?_
      refine X.region ?_
      refine X.opw X.wN rfl (X.move (v := .slice _ _ _) rfl) ?_
      refine X.opw X.wN rfl (X.move (v := .int .i64 _) rfl) ?_
      refine X.opw X.wN rfl (X.idxS hsl Try.underlying22 Try.sizeOf24 rfl rfl ⟨by omega, by omega⟩) ?_
      refine X.opw X.wN rfl (X.loadS Try.isAgg24 hsl hvi rfl (fun _ h => by rw [h.1]; rfl)) ?_
      refine X.opE X.wN rfl (X.callE (Of_c w.heap.size _ hsi (by omega) (by omega)) Try.call20 rfl rfl) ?_
      rintro _ w8 ⟨bm8, rfl, hC8, hk8⟩
      have hk8' := hk8.size
      refine X.opE X.wN rfl (X.callE (Once_c _ hC8 (by omega) (by omega) (by omega) cmpOk17) Try.call26 rfl rfl) ?_
      rintro _ w9 ⟨⟨p9, rfl⟩, hC9, hk9⟩
      have hk9' := hk9.size
      refine X.opE X.wN rfl (X.callE (rest_b _ (CV.cur hC9) (by omega) (fun k hk => by (try simp only [] at *); omega) (by have := once_len li none; omega)) Try.call15 rfl rfl) ?_
      rintro _ w10 ⟨v10, rfl, hM10, hx10⟩
      have hx10' := hx10.size
      refine X.opw X.wN rfl (X.move rfl) ?_
      refine X.opw X.wN rfl (X.extr rfl rfl) ?_
      refine X.opw X.wN rfl (X.extr rfl rfl) ?_
      refine X.opw X.wN rfl (X.assign rfl) ?_
      refine X.opw X.wN rfl (X.assign (v := .bool _) rfl) ?_
      refine X.opsEnd ?_
      refine X.seq ?_
      refine X.region ?_
      refine X.opw X.wN rfl (X.move (v := .bool true) rfl) ?_
      refine X.opw X.wN rfl (X.not_ rfl) ?_
      refine X.opw X.wN rfl (X.move (v := .bool false) rfl) ?_
      refine X.opw (X.wG rfl rfl rfl) rfl (X.move rfl) ?_
      refine X.opw (X.wG rfl rfl rfl) rfl (X.move (v := .slice _ _ _) rfl) ?_
      refine X.opw (X.wG rfl rfl rfl) rfl (X.move (v := .int .i64 _) rfl) ?_
      refine X.opw (X.wG rfl rfl rfl) rfl (X.idxS ((hsl.keep (hk8.trans hk9)).ext hx10 (by intros; (try simp only []); omega)) Try.underlying22 Try.sizeOf24 rfl rfl ⟨by omega, by omega⟩) ?_
      refine X.opw (X.wG rfl rfl rfl) rfl (X.loadS Try.isAgg24 ((hsl.keep (hk8.trans hk9)).ext hx10 (by intros; (try simp only []); omega)) hvi rfl (fun _ h => by rw [h.1]; rfl)) ?_
      refine X.opE (X.wG rfl rfl rfl) rfl (X.callE ((ROnce_c _ ((hsi.keep (hk8.trans hk9)).ext hx10 (by intros; (try simp only []); omega)) (by omega)).mono fun _ _ h => fresh_t h) Try.call27 rfl rfl) ?_
      rintro _ w11 ⟨A11, c11, rfl, hc11, hs11, hk11⟩
      have hk11' := hk11.size
      have q13 := (hM10.keep hk11).slF KTh_flat 0 (fun _ _ => Nat.zero_le _)
      obtain ⟨A13, c13, rfl, hc13, hs13⟩ := q13
      refine X.opE (X.wG rfl rfl rfl) rfl (X.callE (Same_c _ hs13 hs11) Try.call22 rfl rfl) ?_
      rintro _ w12 ⟨rfl, hk12⟩
      have hk12' := hk12.size
      refine X.opw (X.wG rfl rfl rfl) rfl (X.not_ rfl) ?_
      refine X.opw X.wN rfl (X.pickF (v := .bool _) rfl rfl) ?_
      refine X.opsEnd ?_
      refine X.condB rfl (fun hc => ?_) (fun hc => ?_)
      · simp at hc
      · refine X.skip ?_
        refine X.inBlock ?_
        refine X.region ?_
        refine X.opw X.wN rfl (X.move (v := .int .i64 _) rfl) ?_
        refine X.opw X.wN rfl (X.add rfl rfl (X.w_i64 (by omega))) ?_
        refine X.opw X.wN rfl (X.assign (v := .int .i64 _) rfl) ?_
        refine X.opsEnd ?_
        refine hback (i + 1) _ _ ⟨rfl, rfl, trivial⟩ ⟨by omega, (((hsl.keep (hk8.trans hk9)).ext hx10 (by intros; (try simp only []); omega)).keep (hk11.trans hk12)), (SlRows.keep hk12 (SlRows.keep hk11 (SlRows.ext hx10 (by intro k h1 h2; (try simp only []); omega) (SlRows.keep hk9 (SlRows.keep hk8 hrl))))), by omega, (((((hk.trans hk8).trans hk9).step hx10 (by intros; (try simp only [] at *); omega)).trans hk11).trans hk12)⟩ (by omega)
    · refine X.opsEnd ?_
      refine X.condF rfl ?_
      refine X.exit rfl ?_
      refine X.seq ?_
      refine X.region ?_
      refine X.opE X.wN rfl (X.callE (alive_c _) Try.call14 rfl rfl) ?_
      rintro _ w14 ⟨rfl, hk14⟩
      have hk14' := hk14.size
      refine X.opw X.wN rfl (X.assign (v := .bool _) rfl) ?_
      refine X.opsEnd ?_
      refine X.ret1 (v := (.bool _)) Try.func5 Try.results5 rfl ?_
      exact ⟨rfl, (hk.trans hk14)⟩
end Go.Proofs.Ytgfficbkajcdpaa
