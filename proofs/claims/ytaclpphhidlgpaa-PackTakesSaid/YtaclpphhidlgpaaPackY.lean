/- The walk of the law PackJust. -/
import Derived.Test.YtaclpphhidlgpaaPackX
namespace Go.Proofs.Ytaclpphhidlgpaa
open Go Go.Proofs.Ytaclpphhidlgpaa.X
set_option linter.unusedVariables false
set_option linter.unusedSimpArgs false

theorem told_num {l : List UInt8} (h : code (pNum 0 0 l) = 0) : told (pNum 0 0 l) 0 < 18446744073709551616 ∧ 1 ≤ cnt (pNum 0 0 l) l.length ∧ cnt (pNum 0 0 l) l.length ≤ l.length ∧ numB (told (pNum 0 0 l) 0) = l.take (cnt (pNum 0 0 l) l.length).toNat := by
  cases hp : pNum 0 0 l with
  | none => rw [hp] at h; simp [code] at h
  | some b =>
    have hj := pNum_j hp
    have hlt := pNum_lt l 0 0 b (by omega) (by simp) hp
    have hln : 1 ≤ (numB b.1).length := by rw [numB]; split <;> simp
    have hll : l.length = (numB b.1).length + b.2.length := by conv => lhs; rw [hj]; rw [List.length_append]
    simp only [told, cnt]
    have e : ((l.length : Int) - (b.2.length : Int)).toNat = (numB b.1).length := by omega
    refine ⟨hlt, by omega, by omega, ?_⟩
    rw [e]
    conv => rhs; rw [hj]
    simp
theorem told_cnt {l : List UInt8} (h : code (pCnt l) = 0) : isT (told (pCnt l) ([], 0)).1 = true ∧ (∀ v ∈ (told (pCnt l) ([], 0)).1, okV v) ∧ okI (told (pCnt l) ([], 0)).2 ∧ 2 ≤ cnt (pCnt l) l.length ∧ cnt (pCnt l) l.length ≤ l.length ∧ cntB (told (pCnt l) ([], 0)).1 (told (pCnt l) ([], 0)).2 = l.take (cnt (pCnt l) l.length).toNat := by
  cases hp : pCnt l with
  | none => rw [hp] at h; simp [code] at h
  | some b =>
    obtain ⟨hj, h1, h2, h3⟩ := pCnt_just hp
    have hln : 1 ≤ (numB (zig b.1.2).toNat).length := by rw [numB]; split <;> simp
    have hll : l.length = (cntB b.1.1 b.1.2).length + b.2.length := by conv => lhs; rw [hj]; rw [List.length_append]
    have hl2 : 2 ≤ (cntB b.1.1 b.1.2).length := by rw [cntB, List.length_append, tupB, List.length_cons]; omega
    simp only [told, cnt]
    have e : ((l.length : Int) - (b.2.length : Int)).toNat = (cntB b.1.1 b.1.2).length := by omega
    refine ⟨h1, h2, h3, by omega, by omega, ?_⟩
    rw [e]
    conv => rhs; rw [hj]
    simp
theorem tkCnt_2 {A : Option Addr} {n c : Nat} {xs : List UInt8} (w : World) (hs : Sl KB 0 w.heap.size w A n xs) (hnc : n ≤ c) (hn : n ≤ 1000000) : Ret Try.prog 39 #[.slice A n c] w fun r w' => ∃ A' c', r = .tuple #[.agg #[.slice A' (told (pCnt xs) ([], 0)).1.length c', .int .i64 (told (pCnt xs) ([], 0)).2], .int .i64 (cnt (pCnt xs) n), .int .i64 (code (pCnt xs))] ∧ Sl KV 0 w'.heap.size w' A' (told (pCnt xs) ([], 0)).1.length (told (pCnt xs) ([], 0)).1 ∧ Keep w w' := by
  refine (TakeCounted_c w hs hnc hn).mono fun r w' h' => ?_
  obtain ⟨v, h1, h2, h3⟩ := h'
  obtain ⟨A', c', e, hc, hs'⟩ := h2.slF KV_flat 0 (fun _ _ => Nat.zero_le _)
  subst e
  exact ⟨A', c', h1, hs', h3⟩
theorem CountedT_c {lo hi : Nat} {A : Option Addr} {n c : Nat} {l : List VAL} (hT : isT l = true) (N : Int) (hN : okI N) (w : World) (hs : Sl KV lo hi w A n l) (hhi : hi ≤ w.heap.size) : Ret Try.prog 22 #[.agg #[.slice A n c, .int .i64 N]] w fun r w' => ∃ v, r = .tuple #[v, .int .i64 0] ∧ FreshB w w' v (cntB l N) :=
  (Counted_c N hN w hs hhi).mono fun r w' h => by rw [if_pos hT, if_pos hT] at h; exact h
theorem n30 {b : Bool} (h : ¬ (if b = true then (0 : Int) else 30) ≠ 0) : b = true := by cases b <;> simp_all
-- f8 "pedigree/pedigreelaw03.PackJust" params [25] results [4] -> [(ResultVar.tmp 2)] nfree 0 ntmps 104 names
set_option maxHeartbeats 4000000 in
set_option maxRecDepth 100000 in
theorem PackJust_c (w : World) (A1 : Option Addr) (n1 c1 : Nat) (l1 : List UInt8) (hc1 : n1 ≤ c1) (s1 : Sl KB 0 w.heap.size w A1 n1 l1) :
    Ret Try.prog 8 #[.slice A1 n1 c1] w fun r w' => r = .bool true ∧ Keep w w' := by
  refine X.enter Try.func8 rfl Try.ntmps8 rfl ?_
  refine X.seq ?_
  refine X.region ?_
  refine X.opw X.wN rfl (X.assign rfl) ?_
  refine X.opsEnd ?_
  refine X.seq ?_
  refine X.region ?_
  refine X.opw X.wN rfl (X.move (v := .slice _ _ _) rfl) ?_
  refine X.opE X.wN rfl (X.callE (short_c _ s1 (by omega)) Try.call15 rfl rfl) ?_
  rintro _ w1 ⟨m1, rfl, hmc1, hmt1, hs1, hk1⟩
  have hk1' := hk1.size
  refine X.opw X.wN rfl (X.assign (v := .slice _ _ _) rfl) ?_
  refine X.opsEnd ?_
  refine X.seq ?_
  refine X.region ?_
  refine X.opw X.wN rfl (X.move (v := .slice _ _ _) rfl) ?_
  refine X.opE X.wN rfl (X.callE (TakeNum_c _ (hs1.wide (Nat.le_refl _) (by omega)) (by omega) (by omega)) Try.call31 rfl rfl) ?_
  rintro _ w2 ⟨rfl, hk2⟩
  have hk2' := hk2.size
  refine X.opw X.wN rfl (X.move rfl) ?_
  refine X.opw X.wN rfl (X.extr rfl rfl) ?_
  refine X.opw X.wN rfl (X.extr rfl rfl) ?_
  refine X.opw X.wN rfl (X.extr rfl rfl) ?_
  refine X.opw X.wN rfl (X.assign (v := .int .u64 _) rfl) ?_
  refine X.opw X.wN rfl (X.assign (v := .int .i64 _) rfl) ?_
  refine X.opw X.wN rfl (X.assign (v := .int .i64 _) rfl) ?_
  refine X.opsEnd ?_
  refine X.seq ?_
  refine X.seq ?_
  refine X.regionD (fun _ => False) 22 (by kernel_rfl) (by kernel_rfl) (fun w3 hk3 hz3 => ?_)
  refine X.dTake 0 rfl (by kernel_rfl) (by kernel_rfl) (by kernel_rfl) (X.dwN rfl) (fun w' hk' => X.move (v := .int .i64 _) rfl) ?_
  refine X.dTake 1 rfl (by kernel_rfl) (by kernel_rfl) (by kernel_rfl) (X.dwN rfl) (fun w' hk' => X.eqI rfl rfl) ?_
  refine X.dTake 2 rfl (by kernel_rfl) (by kernel_rfl) (by kernel_rfl) (X.dwN rfl) (fun w' hk' => X.move (v := .bool _) rfl) ?_
  refine X.dFork 25 rfl (fun h25 => ?_) (fun h25 => ?_)
  · have hq := of_decide_eq_true h25
    have hlm := hs1.len
    obtain ⟨hj1, hj2, hj3, hj4⟩ := told_num hq
    rw [hlm] at hj2 hj3 hj4
    refine X.dTake 3 rfl (by kernel_rfl) (by kernel_rfl) (by kernel_rfl) (X.dwG rfl rfl rfl) (fun w' hk' => X.move (v := .int .i64 _) rfl) ?_
    refine X.dTake 4 rfl (by kernel_rfl) (by kernel_rfl) (by kernel_rfl) (X.dwG rfl rfl rfl) (fun w' hk' => X.lss rfl rfl) ?_
    refine X.dTake 5 rfl (by kernel_rfl) (by kernel_rfl) (by kernel_rfl) (X.dwG rfl rfl rfl) (fun w' hk' => X.move (v := .bool _) rfl) ?_
    refine X.dFork 28 rfl (fun h28 => ?_) (fun h28 => ?_)
    · have q := of_decide_eq_true h28
      omega
    · refine X.dTake 6 rfl (by kernel_rfl) (by kernel_rfl) (by kernel_rfl) (X.dwG rfl rfl rfl) (fun w' hk' => X.move (v := .int .i64 _) rfl) ?_
      refine X.dTake 7 rfl (by kernel_rfl) (by kernel_rfl) (by kernel_rfl) (X.dwG rfl rfl rfl) (fun w' hk' => X.move (v := .slice _ _ _) rfl) ?_
      refine X.dTake 8 rfl (by kernel_rfl) (by kernel_rfl) (by kernel_rfl) (X.dwG rfl rfl rfl) (fun w' hk' => X.lenSl Try.underlying25 rfl) ?_
      refine X.dTake 9 rfl (by kernel_rfl) (by kernel_rfl) (by kernel_rfl) (X.dwG rfl rfl rfl) (fun w' hk' => X.gtr rfl rfl) ?_
      refine X.dTake 10 rfl (by kernel_rfl) (by kernel_rfl) (by kernel_rfl) (X.dwG rfl rfl rfl) (fun w' hk' => X.pickF (v := .bool _) rfl rfl) ?_
      refine X.dTake 11 rfl (by kernel_rfl) (by kernel_rfl) (by kernel_rfl) (X.dwG rfl rfl rfl) (fun w' hk' => X.move (v := .bool _) rfl) ?_
      refine X.dFork 34 rfl (fun h34 => ?_) (fun h34 => ?_)
      · have q := of_decide_eq_true h34
        omega
      · refine X.dTake 12 rfl (by kernel_rfl) (by kernel_rfl) (by kernel_rfl) (X.dwG rfl rfl rfl) (fun w' hk' => X.move (v := .int .u64 _) rfl) ?_
        refine X.dTake 15 rfl (by kernel_rfl) (by kernel_rfl) (by kernel_rfl) (X.dwG rfl rfl rfl) (fun w' hk' => X.move (v := .slice _ _ _) rfl) ?_
        refine X.dTake 16 rfl (by kernel_rfl) (by kernel_rfl) (by kernel_rfl) (X.dwG rfl rfl rfl) (fun w' hk' => X.move (v := .int .i64 _) rfl) ?_
        refine X.dTake 17 rfl (by kernel_rfl) (by kernel_rfl) (by kernel_rfl) (X.dwG rfl rfl rfl) (fun w' hk' => X.cutHr Try.underlying25 Try.sizeOf5 rfl rfl (by omega)) ?_
        refine X.dTake 18 rfl (by kernel_rfl) (by kernel_rfl) (by kernel_rfl) (X.dwG rfl rfl rfl) (fun w' hk' => X.str Try.underlying25 Try.underlying5 Try.underlying9 rfl KB_is rfl ((hs1.take _ (by omega)).keep ((hk2.trans hk3).trans hk'))) ?_
        refine X.dE (i := 13) (by kernel_rfl) rfl (X.dwG rfl rfl rfl) (X.callE (Num_c _ (by omega) (by omega) _) Try.call17 rfl rfl) (by rintro v4 w4 ⟨hM4, hk4⟩ _; exact hk4.mono (fun _ _ h => h.elim)) ?_
        rintro v4 w4 ⟨hM4, hk4⟩
        have hk4' := hk4.size
        have q5 := hM4.slF KB_flat 0 (fun _ _ => Nat.zero_le _)
        obtain ⟨A5, c5, rfl, hc5, hs5⟩ := q5
        refine X.dTake 14 rfl (by kernel_rfl) (by kernel_rfl) (by kernel_rfl) (X.dwG rfl rfl rfl) (fun w' hk' => X.str Try.underlying25 Try.underlying5 Try.underlying9 rfl KB_is rfl (hs5.keep hk')) ?_
        refine X.dTake 19 rfl (by kernel_rfl) (by kernel_rfl) (by kernel_rfl) (X.dwG rfl rfl rfl) (fun w' hk' => X.neD rfl rfl) ?_
        refine X.dTake 20 rfl (by kernel_rfl) (by kernel_rfl) (by kernel_rfl) (X.dwG rfl rfl rfl) (fun w' hk' => X.pickF (v := .bool _) rfl rfl) ?_
        refine X.dTake 21 rfl (by kernel_rfl) (by kernel_rfl) (by kernel_rfl) (X.dwN rfl) (fun w' hk' => X.pickT (v := .bool _) rfl rfl) ?_
        refine X.dEnd (by kernel_rfl) ?_
        refine X.condB rfl (fun hc => ?_) (fun hc => ?_)
        · have q := of_decide_eq_true hc
          exact absurd (by rw [Int.toNat_natCast, hj4]) q
        · refine X.skip ?_
          refine X.seq ?_
          refine X.region ?_
          refine X.opw X.wN rfl (X.move (v := .slice _ _ _) rfl) ?_
          refine X.opE X.wN rfl (X.callE (tkCnt_2 _ ((hs1.keep ((hk2.trans hk3).trans hk4)).wide (Nat.le_refl _) (by omega)) (by omega) (by omega)) Try.call39 rfl rfl) ?_
          rintro _ w6 ⟨A6, c6, rfl, hs6, hk6⟩
          have hk6' := hk6.size
          refine X.opw X.wN rfl (X.move rfl) ?_
          refine X.opw X.wN rfl (X.extr rfl rfl) ?_
          refine X.opw X.wN rfl (X.extr rfl rfl) ?_
          refine X.opw X.wN rfl (X.extr rfl rfl) ?_
          refine X.opE X.wN rfl (X.allocE Try.zeroValue42 rfl) ?_
          rintro _ w7 ⟨rfl, hB7, hk7, hz7⟩
          refine X.opE X.wN rfl (X.storeNE Try.sizeOf42 hB7 rfl rfl rfl rfl (fun u hu => by simp at hu; rcases hu with rfl | rfl <;> rfl)) ?_
          rintro _ w8 ⟨hB8, hx8, hz8⟩
          refine X.opw X.wN rfl (X.assign (v := .int .i64 _) rfl) ?_
          refine X.opw X.wN rfl (X.assign (v := .int .i64 _) rfl) ?_
          refine X.opsEnd ?_
          refine X.seq ?_
          refine X.seq ?_
          refine X.region ?_
          refine X.opw X.wN rfl (X.move (v := .int .i64 _) rfl) ?_
          refine X.opP X.wN rfl rfl (X.eqI rfl rfl) (fun h52 => ?_) (fun h52 => ?_)
          · have hlm2 := hs1.len
            obtain ⟨hcT, hcO, hcN, hc2, hc3, hc4⟩ := told_cnt h52
            rw [hlm2] at hc2 hc3 hc4
            refine X.opsEnd ?_
            refine X.condT rfl ?_
            refine X.seq ?_
            refine X.region ?_
            refine X.opw X.wN rfl (X.loadNB Try.isAgg42 Try.sizeOf42 hB8 rfl rfl rfl) ?_
            refine X.opE X.wN rfl (X.callE (CountedT_c hcT _ hcN _ (hs6.keep (hk7.step hx8 (by intros; (try simp only [] at *); omega))) (by omega)) Try.call22 rfl rfl) ?_
            rintro _ w9 ⟨v9, rfl, hM9, hk9⟩
            have hk9' := hk9.size
            refine X.opw X.wN rfl (X.move rfl) ?_
            refine X.opw X.wN rfl (X.extr rfl rfl) ?_
            refine X.opw X.wN rfl (X.extr rfl rfl) ?_
            refine X.opw X.wN rfl (X.assign rfl) ?_
            refine X.opw X.wN rfl (X.assign (v := .int .i64 _) rfl) ?_
            refine X.opsEnd ?_
            refine X.seq ?_
            refine X.regionD (fun _ => False) 21 (by kernel_rfl) (by kernel_rfl) (fun w10 hk10 hz10 => ?_)
            refine X.dTake 0 rfl (by kernel_rfl) (by kernel_rfl) (by kernel_rfl) (X.dwN rfl) (fun w' hk' => X.move (v := .int .i64 _) rfl) ?_
            refine X.dTake 1 rfl (by kernel_rfl) (by kernel_rfl) (by kernel_rfl) (X.dwN rfl) (fun w' hk' => X.neI rfl rfl) ?_
            refine X.dTake 2 rfl (by kernel_rfl) (by kernel_rfl) (by kernel_rfl) (X.dwN rfl) (fun w' hk' => X.move (v := .bool _) rfl) ?_
            refine X.dFork 60 rfl (fun h60 => ?_) (fun h60 => ?_)
            · simp at h60
            · refine X.dTake 3 rfl (by kernel_rfl) (by kernel_rfl) (by kernel_rfl) (X.dwG rfl rfl rfl) (fun w' hk' => X.move (v := .int .i64 _) rfl) ?_
              refine X.dTake 4 rfl (by kernel_rfl) (by kernel_rfl) (by kernel_rfl) (X.dwG rfl rfl rfl) (fun w' hk' => X.lss rfl rfl) ?_
              refine X.dTake 5 rfl (by kernel_rfl) (by kernel_rfl) (by kernel_rfl) (X.dwN rfl) (fun w' hk' => X.pickF (v := .bool _) rfl rfl) ?_
              refine X.dTake 6 rfl (by kernel_rfl) (by kernel_rfl) (by kernel_rfl) (X.dwN rfl) (fun w' hk' => X.move (v := .bool _) rfl) ?_
              refine X.dFork 64 rfl (fun h64 => ?_) (fun h64 => ?_)
              · have q := of_decide_eq_true h64
                omega
              · refine X.dTake 7 rfl (by kernel_rfl) (by kernel_rfl) (by kernel_rfl) (X.dwG rfl rfl rfl) (fun w' hk' => X.move (v := .int .i64 _) rfl) ?_
                refine X.dTake 8 rfl (by kernel_rfl) (by kernel_rfl) (by kernel_rfl) (X.dwG rfl rfl rfl) (fun w' hk' => X.move (v := .slice _ _ _) rfl) ?_
                refine X.dTake 9 rfl (by kernel_rfl) (by kernel_rfl) (by kernel_rfl) (X.dwG rfl rfl rfl) (fun w' hk' => X.lenSl Try.underlying25 rfl) ?_
                refine X.dTake 10 rfl (by kernel_rfl) (by kernel_rfl) (by kernel_rfl) (X.dwG rfl rfl rfl) (fun w' hk' => X.gtr rfl rfl) ?_
                refine X.dTake 11 rfl (by kernel_rfl) (by kernel_rfl) (by kernel_rfl) (X.dwN rfl) (fun w' hk' => X.pickF (v := .bool _) rfl rfl) ?_
                refine X.dTake 12 rfl (by kernel_rfl) (by kernel_rfl) (by kernel_rfl) (X.dwN rfl) (fun w' hk' => X.move (v := .bool _) rfl) ?_
                refine X.dFork 70 rfl (fun h70 => ?_) (fun h70 => ?_)
                · have q := of_decide_eq_true h70
                  omega
                · refine X.dTake 13 rfl (by kernel_rfl) (by kernel_rfl) (by kernel_rfl) (X.dwG rfl rfl rfl) (fun w' hk' => X.move rfl) ?_
                  have q11 := (hM9.keep hk10).slF KB_flat 0 (fun _ _ => Nat.zero_le _)
                  obtain ⟨A11, c11, rfl, hc11, hs11⟩ := q11
                  refine X.dTake 14 rfl (by kernel_rfl) (by kernel_rfl) (by kernel_rfl) (X.dwG rfl rfl rfl) (fun w' hk' => X.str Try.underlying25 Try.underlying5 Try.underlying9 rfl KB_is rfl (hs11.keep hk')) ?_
                  refine X.dTake 15 rfl (by kernel_rfl) (by kernel_rfl) (by kernel_rfl) (X.dwG rfl rfl rfl) (fun w' hk' => X.move (v := .slice _ _ _) rfl) ?_
                  refine X.dTake 16 rfl (by kernel_rfl) (by kernel_rfl) (by kernel_rfl) (X.dwG rfl rfl rfl) (fun w' hk' => X.move (v := .int .i64 _) rfl) ?_
                  refine X.dTake 17 rfl (by kernel_rfl) (by kernel_rfl) (by kernel_rfl) (X.dwG rfl rfl rfl) (fun w' hk' => X.cutHr Try.underlying25 Try.sizeOf5 rfl rfl (by omega)) ?_
                  refine X.dTake 18 rfl (by kernel_rfl) (by kernel_rfl) (by kernel_rfl) (X.dwG rfl rfl rfl) (fun w' hk' => X.str Try.underlying25 Try.underlying5 Try.underlying9 rfl KB_is rfl ((hs1.take _ (by omega)).keep ((((((((hk2.trans hk3).trans hk4).trans hk6).trans hk7).step hx8 (by intros; (try simp only [] at *); omega)).trans hk9).trans hk10).trans hk'))) ?_
                  refine X.dTake 19 rfl (by kernel_rfl) (by kernel_rfl) (by kernel_rfl) (X.dwG rfl rfl rfl) (fun w' hk' => X.neD rfl rfl) ?_
                  refine X.dTake 20 rfl (by kernel_rfl) (by kernel_rfl) (by kernel_rfl) (X.dwN rfl) (fun w' hk' => X.pickF (v := .bool _) rfl rfl) ?_
                  refine X.dEnd (by kernel_rfl) ?_
                  refine X.condB rfl (fun hc => ?_) (fun hc => ?_)
                  · have q := of_decide_eq_true hc
                    exact absurd (by rw [hc4]) q
                  · refine X.skip ?_
                    refine X.seq ?_
                    refine X.region ?_
                    refine X.opw X.wN rfl (X.move (v := .slice _ _ _) rfl) ?_
                    refine X.opE X.wN rfl (X.callE (FromKey_c _ ((hs1.keep (((((((hk2.trans hk3).trans hk4).trans hk6).trans hk7).step hx8 (by intros; (try simp only [] at *); omega)).trans hk9).trans hk10)).wide (Nat.le_refl _) (by omega)) (by omega) (by omega)) Try.call29 rfl rfl) ?_
                    rintro _ w12 ⟨v12, rfl, hM12, hk12⟩
                    have hk12' := hk12.size
                    refine X.opw X.wN rfl (X.move rfl) ?_
                    refine X.opw X.wN rfl (X.extr rfl rfl) ?_
                    refine X.opw X.wN rfl (X.extr rfl rfl) ?_
                    refine X.opw X.wN rfl (X.assign rfl) ?_
                    refine X.opw X.wN rfl (X.assign (v := .int .i64 _) rfl) ?_
                    refine X.opsEnd ?_
                    refine X.seq ?_
                    refine X.seq ?_
                    refine X.region ?_
                    refine X.opw X.wN rfl (X.move (v := .int .i64 _) rfl) ?_
                    refine X.opP X.wN rfl rfl (X.neI rfl rfl) (fun h85 => ?_) (fun h85 => ?_)
                    · refine X.opsEnd ?_
                      refine X.condT rfl ?_
                      refine X.seq ?_
                      refine X.region ?_
                      refine X.opE X.wN rfl (X.callE (alive_c _) Try.call13 rfl rfl) ?_
                      rintro _ w13 ⟨rfl, hk13⟩
                      have hk13' := hk13.size
                      refine X.opw X.wN rfl (X.assign (v := .bool _) rfl) ?_
                      refine X.opsEnd ?_
                      refine X.ret1 (v := (.bool _)) Try.func8 Try.results8 rfl ?_
                      exact ⟨rfl, ((((((((((hk1.trans hk2).trans hk3).trans hk4).trans hk6).trans hk7).step hx8 (by intros; (try simp only [] at *); omega)).trans hk9).trans hk10).trans hk12).trans hk13)⟩
                    · obtain ⟨s, hp⟩ := Option.isSome_iff_exists.1 (n30 h85)
                      obtain ⟨hkb, hT⟩ := pFrom_just hp
                      simp only [hp, Option.getD_some] at hM12
                      refine X.opsEnd ?_
                      refine X.condF rfl ?_
                      refine X.skip ?_
                      refine X.seq ?_
                      refine X.region ?_
                      refine X.opw X.wN rfl (X.move rfl) ?_
                      have q15 := hM12.slF KV_flat 0 (fun _ _ => Nat.zero_le _)
                      obtain ⟨A15, c15, rfl, hc15, hs15⟩ := q15
                      refine X.opE X.wN rfl (X.callE (KeyT_c hT _ hs15 (by omega)) Try.call11 rfl rfl) ?_
                      rintro _ w14 ⟨v14, rfl, hM14, hk14⟩
                      have hk14' := hk14.size
                      refine X.opw X.wN rfl (X.move rfl) ?_
                      refine X.opw X.wN rfl (X.extr rfl rfl) ?_
                      refine X.opw X.wN rfl (X.extr rfl rfl) ?_
                      refine X.opw X.wN rfl (X.assign rfl) ?_
                      refine X.opw X.wN rfl (X.assign (v := .int .i64 _) rfl) ?_
                      refine X.opsEnd ?_
                      refine X.seq ?_
                      refine X.region ?_
                      refine X.opw X.wN rfl (X.move (v := .int .i64 _) rfl) ?_
                      refine X.opP X.wN rfl rfl (X.eqI rfl rfl) (fun h93 => ?_) (fun h93 => ?_)
                      · refine X.opw X.wN rfl (X.move (v := .bool true) rfl) ?_
                        refine X.opw (X.wG rfl rfl rfl) rfl (X.move rfl) ?_
                        have q16 := hM14.slF KB_flat 0 (fun _ _ => Nat.zero_le _)
                        obtain ⟨A16, c16, rfl, hc16, hs16⟩ := q16
                        refine X.opw (X.wG rfl rfl rfl) rfl (X.str Try.underlying25 Try.underlying5 Try.underlying9 rfl KB_is rfl hs16) ?_
                        refine X.opw (X.wG rfl rfl rfl) rfl (X.move (v := .slice _ _ _) rfl) ?_
                        refine X.opw (X.wG rfl rfl rfl) rfl (X.str Try.underlying25 Try.underlying5 Try.underlying9 rfl KB_is rfl (hs1.keep (((((((((hk2.trans hk3).trans hk4).trans hk6).trans hk7).step hx8 (by intros; (try simp only [] at *); omega)).trans hk9).trans hk10).trans hk12).trans hk14))) ?_
                        refine X.opP (X.wG rfl rfl rfl) rfl rfl (X.eqD rfl rfl) (fun h99 => ?_) (fun h99 => ?_)
                        · refine X.opw X.wN rfl (X.pickT (v := .bool true) rfl rfl) ?_
                          refine X.opw X.wN rfl (X.move (v := .bool true) rfl) ?_
                          refine X.opE (X.wG rfl rfl rfl) rfl (X.callE (alive_c _) Try.call13 rfl rfl) ?_
                          rintro _ w17 ⟨rfl, hk17⟩
                          have hk17' := hk17.size
                          refine X.opw X.wN rfl (X.pickT (v := .bool _) rfl rfl) ?_
                          refine X.opw X.wN rfl (X.assign (v := .bool _) rfl) ?_
                          refine X.opsEnd ?_
                          refine X.ret1 (v := (.bool _)) Try.func8 Try.results8 rfl ?_
                          exact ⟨rfl, (((((((((((hk1.trans hk2).trans hk3).trans hk4).trans hk6).trans hk7).step hx8 (by intros; (try simp only [] at *); omega)).trans hk9).trans hk10).trans hk12).trans hk14).trans hk17)⟩
                        · exact absurd (by rw [hkb]) h99
                      · exact absurd rfl h93
          · refine X.opsEnd ?_
            refine X.condF rfl ?_
            refine X.skip ?_
            refine X.seq ?_
            refine X.region ?_
            refine X.opw X.wN rfl (X.move (v := .slice _ _ _) rfl) ?_
            refine X.opE X.wN rfl (X.callE (FromKey_c _ ((hs1.keep (((((hk2.trans hk3).trans hk4).trans hk6).trans hk7).step hx8 (by intros; (try simp only [] at *); omega))).wide (Nat.le_refl _) (by omega)) (by omega) (by omega)) Try.call29 rfl rfl) ?_
            rintro _ w18 ⟨v18, rfl, hM18, hk18⟩
            have hk18' := hk18.size
            refine X.opw X.wN rfl (X.move rfl) ?_
            refine X.opw X.wN rfl (X.extr rfl rfl) ?_
            refine X.opw X.wN rfl (X.extr rfl rfl) ?_
            refine X.opw X.wN rfl (X.assign rfl) ?_
            refine X.opw X.wN rfl (X.assign (v := .int .i64 _) rfl) ?_
            refine X.opsEnd ?_
            refine X.seq ?_
            refine X.seq ?_
            refine X.region ?_
            refine X.opw X.wN rfl (X.move (v := .int .i64 _) rfl) ?_
            refine X.opP X.wN rfl rfl (X.neI rfl rfl) (fun h85 => ?_) (fun h85 => ?_)
            · refine X.opsEnd ?_
              refine X.condT rfl ?_
              refine X.seq ?_
              refine X.region ?_
              refine X.opE X.wN rfl (X.callE (alive_c _) Try.call13 rfl rfl) ?_
              rintro _ w19 ⟨rfl, hk19⟩
              have hk19' := hk19.size
              refine X.opw X.wN rfl (X.assign (v := .bool _) rfl) ?_
              refine X.opsEnd ?_
              refine X.ret1 (v := (.bool _)) Try.func8 Try.results8 rfl ?_
              exact ⟨rfl, ((((((((hk1.trans hk2).trans hk3).trans hk4).trans hk6).trans hk7).step hx8 (by intros; (try simp only [] at *); omega)).trans hk18).trans hk19)⟩
            · obtain ⟨s, hp⟩ := Option.isSome_iff_exists.1 (n30 h85)
              obtain ⟨hkb, hT⟩ := pFrom_just hp
              simp only [hp, Option.getD_some] at hM18
              refine X.opsEnd ?_
              refine X.condF rfl ?_
              refine X.skip ?_
              refine X.seq ?_
              refine X.region ?_
              refine X.opw X.wN rfl (X.move rfl) ?_
              have q21 := hM18.slF KV_flat 0 (fun _ _ => Nat.zero_le _)
              obtain ⟨A21, c21, rfl, hc21, hs21⟩ := q21
              refine X.opE X.wN rfl (X.callE (KeyT_c hT _ hs21 (by omega)) Try.call11 rfl rfl) ?_
              rintro _ w20 ⟨v20, rfl, hM20, hk20⟩
              have hk20' := hk20.size
              refine X.opw X.wN rfl (X.move rfl) ?_
              refine X.opw X.wN rfl (X.extr rfl rfl) ?_
              refine X.opw X.wN rfl (X.extr rfl rfl) ?_
              refine X.opw X.wN rfl (X.assign rfl) ?_
              refine X.opw X.wN rfl (X.assign (v := .int .i64 _) rfl) ?_
              refine X.opsEnd ?_
              refine X.seq ?_
              refine X.region ?_
              refine X.opw X.wN rfl (X.move (v := .int .i64 _) rfl) ?_
              refine X.opP X.wN rfl rfl (X.eqI rfl rfl) (fun h93 => ?_) (fun h93 => ?_)
              · refine X.opw X.wN rfl (X.move (v := .bool true) rfl) ?_
                refine X.opw (X.wG rfl rfl rfl) rfl (X.move rfl) ?_
                have q22 := hM20.slF KB_flat 0 (fun _ _ => Nat.zero_le _)
                obtain ⟨A22, c22, rfl, hc22, hs22⟩ := q22
                refine X.opw (X.wG rfl rfl rfl) rfl (X.str Try.underlying25 Try.underlying5 Try.underlying9 rfl KB_is rfl hs22) ?_
                refine X.opw (X.wG rfl rfl rfl) rfl (X.move (v := .slice _ _ _) rfl) ?_
                refine X.opw (X.wG rfl rfl rfl) rfl (X.str Try.underlying25 Try.underlying5 Try.underlying9 rfl KB_is rfl (hs1.keep (((((((hk2.trans hk3).trans hk4).trans hk6).trans hk7).step hx8 (by intros; (try simp only [] at *); omega)).trans hk18).trans hk20))) ?_
                refine X.opP (X.wG rfl rfl rfl) rfl rfl (X.eqD rfl rfl) (fun h99 => ?_) (fun h99 => ?_)
                · refine X.opw X.wN rfl (X.pickT (v := .bool true) rfl rfl) ?_
                  refine X.opw X.wN rfl (X.move (v := .bool true) rfl) ?_
                  refine X.opE (X.wG rfl rfl rfl) rfl (X.callE (alive_c _) Try.call13 rfl rfl) ?_
                  rintro _ w23 ⟨rfl, hk23⟩
                  have hk23' := hk23.size
                  refine X.opw X.wN rfl (X.pickT (v := .bool _) rfl rfl) ?_
                  refine X.opw X.wN rfl (X.assign (v := .bool _) rfl) ?_
                  refine X.opsEnd ?_
                  refine X.ret1 (v := (.bool _)) Try.func8 Try.results8 rfl ?_
                  exact ⟨rfl, (((((((((hk1.trans hk2).trans hk3).trans hk4).trans hk6).trans hk7).step hx8 (by intros; (try simp only [] at *); omega)).trans hk18).trans hk20).trans hk23)⟩
                · exact absurd (by rw [hkb]) h99
              · exact absurd rfl h93
  · refine X.dSkip (i := 3) (by kernel_rfl) rfl rfl rfl rfl rfl ?_
    refine X.dSkip (i := 4) (by kernel_rfl) rfl rfl rfl rfl rfl ?_
    refine X.dSkip (i := 5) (by kernel_rfl) rfl rfl rfl rfl rfl ?_
    refine X.dTakeU 6 rfl (by kernel_rfl) (by kernel_rfl) (by kernel_rfl) rfl rfl rfl ?_
    refine X.dSkU (i := 7) (by kernel_rfl) rfl rfl rfl rfl ?_
    refine X.dSkU (i := 8) (by kernel_rfl) rfl rfl rfl rfl ?_
    refine X.dSkU (i := 9) (by kernel_rfl) rfl rfl rfl rfl ?_
    refine X.dSkip (i := 10) (by kernel_rfl) rfl rfl rfl rfl rfl ?_
    refine X.dSkip (i := 11) (by kernel_rfl) rfl rfl rfl rfl rfl ?_
    refine X.dTakeU 12 rfl (by kernel_rfl) (by kernel_rfl) (by kernel_rfl) rfl rfl rfl ?_
    refine X.dTakeU 13 rfl (by kernel_rfl) (by kernel_rfl) (by kernel_rfl) rfl rfl rfl ?_
    refine X.dTakeU 14 rfl (by kernel_rfl) (by kernel_rfl) (by kernel_rfl) rfl rfl rfl ?_
    refine X.dTakeU 15 rfl (by kernel_rfl) (by kernel_rfl) (by kernel_rfl) rfl rfl rfl ?_
    refine X.dSkU (i := 16) (by kernel_rfl) rfl rfl rfl rfl ?_
    refine X.dSkU (i := 17) (by kernel_rfl) rfl rfl rfl rfl ?_
    refine X.dSkU (i := 18) (by kernel_rfl) rfl rfl rfl rfl ?_
    refine X.dSkU (i := 19) (by kernel_rfl) rfl rfl rfl rfl ?_
    refine X.dSkip (i := 20) (by kernel_rfl) rfl rfl rfl rfl rfl ?_
    refine X.dTake 21 rfl (by kernel_rfl) (by kernel_rfl) (by kernel_rfl) (X.dwN rfl) (fun w' hk' => X.pickF (v := .bool false) rfl rfl) ?_
    refine X.dEnd (by kernel_rfl) ?_
    refine X.condF rfl ?_
    refine X.skip ?_
    refine X.seq ?_
    refine X.region ?_
    refine X.opw X.wN rfl (X.move (v := .slice _ _ _) rfl) ?_
    refine X.opE X.wN rfl (X.callE (tkCnt_2 _ ((hs1.keep (hk2.trans hk3)).wide (Nat.le_refl _) (by omega)) (by omega) (by omega)) Try.call39 rfl rfl) ?_
    rintro _ w24 ⟨A24, c24, rfl, hs24, hk24⟩
    have hk24' := hk24.size
    refine X.opw X.wN rfl (X.move rfl) ?_
    refine X.opw X.wN rfl (X.extr rfl rfl) ?_
    refine X.opw X.wN rfl (X.extr rfl rfl) ?_
    refine X.opw X.wN rfl (X.extr rfl rfl) ?_
    refine X.opE X.wN rfl (X.allocE Try.zeroValue42 rfl) ?_
    rintro _ w25 ⟨rfl, hB25, hk25, hz25⟩
    refine X.opE X.wN rfl (X.storeNE Try.sizeOf42 hB25 rfl rfl rfl rfl (fun u hu => by simp at hu; rcases hu with rfl | rfl <;> rfl)) ?_
    rintro _ w26 ⟨hB26, hx26, hz26⟩
    refine X.opw X.wN rfl (X.assign (v := .int .i64 _) rfl) ?_
    refine X.opw X.wN rfl (X.assign (v := .int .i64 _) rfl) ?_
    refine X.opsEnd ?_
    refine X.seq ?_
    refine X.seq ?_
    refine X.region ?_
    refine X.opw X.wN rfl (X.move (v := .int .i64 _) rfl) ?_
    refine X.opP X.wN rfl rfl (X.eqI rfl rfl) (fun h52 => ?_) (fun h52 => ?_)
    · have hlm2 := hs1.len
      obtain ⟨hcT, hcO, hcN, hc2, hc3, hc4⟩ := told_cnt h52
      rw [hlm2] at hc2 hc3 hc4
      refine X.opsEnd ?_
      refine X.condT rfl ?_
      refine X.seq ?_
      refine X.region ?_
      refine X.opw X.wN rfl (X.loadNB Try.isAgg42 Try.sizeOf42 hB26 rfl rfl rfl) ?_
      refine X.opE X.wN rfl (X.callE (CountedT_c hcT _ hcN _ (hs24.keep (hk25.step hx26 (by intros; (try simp only [] at *); omega))) (by omega)) Try.call22 rfl rfl) ?_
      rintro _ w27 ⟨v27, rfl, hM27, hk27⟩
      have hk27' := hk27.size
      refine X.opw X.wN rfl (X.move rfl) ?_
      refine X.opw X.wN rfl (X.extr rfl rfl) ?_
      refine X.opw X.wN rfl (X.extr rfl rfl) ?_
      refine X.opw X.wN rfl (X.assign rfl) ?_
      refine X.opw X.wN rfl (X.assign (v := .int .i64 _) rfl) ?_
      refine X.opsEnd ?_
      refine X.seq ?_
      refine X.regionD (fun _ => False) 21 (by kernel_rfl) (by kernel_rfl) (fun w28 hk28 hz28 => ?_)
      refine X.dTake 0 rfl (by kernel_rfl) (by kernel_rfl) (by kernel_rfl) (X.dwN rfl) (fun w' hk' => X.move (v := .int .i64 _) rfl) ?_
      refine X.dTake 1 rfl (by kernel_rfl) (by kernel_rfl) (by kernel_rfl) (X.dwN rfl) (fun w' hk' => X.neI rfl rfl) ?_
      refine X.dTake 2 rfl (by kernel_rfl) (by kernel_rfl) (by kernel_rfl) (X.dwN rfl) (fun w' hk' => X.move (v := .bool _) rfl) ?_
      refine X.dFork 60 rfl (fun h60 => ?_) (fun h60 => ?_)
      · simp at h60
      · refine X.dTake 3 rfl (by kernel_rfl) (by kernel_rfl) (by kernel_rfl) (X.dwG rfl rfl rfl) (fun w' hk' => X.move (v := .int .i64 _) rfl) ?_
        refine X.dTake 4 rfl (by kernel_rfl) (by kernel_rfl) (by kernel_rfl) (X.dwG rfl rfl rfl) (fun w' hk' => X.lss rfl rfl) ?_
        refine X.dTake 5 rfl (by kernel_rfl) (by kernel_rfl) (by kernel_rfl) (X.dwN rfl) (fun w' hk' => X.pickF (v := .bool _) rfl rfl) ?_
        refine X.dTake 6 rfl (by kernel_rfl) (by kernel_rfl) (by kernel_rfl) (X.dwN rfl) (fun w' hk' => X.move (v := .bool _) rfl) ?_
        refine X.dFork 64 rfl (fun h64 => ?_) (fun h64 => ?_)
        · have q := of_decide_eq_true h64
          omega
        · refine X.dTake 7 rfl (by kernel_rfl) (by kernel_rfl) (by kernel_rfl) (X.dwG rfl rfl rfl) (fun w' hk' => X.move (v := .int .i64 _) rfl) ?_
          refine X.dTake 8 rfl (by kernel_rfl) (by kernel_rfl) (by kernel_rfl) (X.dwG rfl rfl rfl) (fun w' hk' => X.move (v := .slice _ _ _) rfl) ?_
          refine X.dTake 9 rfl (by kernel_rfl) (by kernel_rfl) (by kernel_rfl) (X.dwG rfl rfl rfl) (fun w' hk' => X.lenSl Try.underlying25 rfl) ?_
          refine X.dTake 10 rfl (by kernel_rfl) (by kernel_rfl) (by kernel_rfl) (X.dwG rfl rfl rfl) (fun w' hk' => X.gtr rfl rfl) ?_
          refine X.dTake 11 rfl (by kernel_rfl) (by kernel_rfl) (by kernel_rfl) (X.dwN rfl) (fun w' hk' => X.pickF (v := .bool _) rfl rfl) ?_
          refine X.dTake 12 rfl (by kernel_rfl) (by kernel_rfl) (by kernel_rfl) (X.dwN rfl) (fun w' hk' => X.move (v := .bool _) rfl) ?_
          refine X.dFork 70 rfl (fun h70 => ?_) (fun h70 => ?_)
          · have q := of_decide_eq_true h70
            omega
          · refine X.dTake 13 rfl (by kernel_rfl) (by kernel_rfl) (by kernel_rfl) (X.dwG rfl rfl rfl) (fun w' hk' => X.move rfl) ?_
            have q29 := (hM27.keep hk28).slF KB_flat 0 (fun _ _ => Nat.zero_le _)
            obtain ⟨A29, c29, rfl, hc29, hs29⟩ := q29
            refine X.dTake 14 rfl (by kernel_rfl) (by kernel_rfl) (by kernel_rfl) (X.dwG rfl rfl rfl) (fun w' hk' => X.str Try.underlying25 Try.underlying5 Try.underlying9 rfl KB_is rfl (hs29.keep hk')) ?_
            refine X.dTake 15 rfl (by kernel_rfl) (by kernel_rfl) (by kernel_rfl) (X.dwG rfl rfl rfl) (fun w' hk' => X.move (v := .slice _ _ _) rfl) ?_
            refine X.dTake 16 rfl (by kernel_rfl) (by kernel_rfl) (by kernel_rfl) (X.dwG rfl rfl rfl) (fun w' hk' => X.move (v := .int .i64 _) rfl) ?_
            refine X.dTake 17 rfl (by kernel_rfl) (by kernel_rfl) (by kernel_rfl) (X.dwG rfl rfl rfl) (fun w' hk' => X.cutHr Try.underlying25 Try.sizeOf5 rfl rfl (by omega)) ?_
            refine X.dTake 18 rfl (by kernel_rfl) (by kernel_rfl) (by kernel_rfl) (X.dwG rfl rfl rfl) (fun w' hk' => X.str Try.underlying25 Try.underlying5 Try.underlying9 rfl KB_is rfl ((hs1.take _ (by omega)).keep (((((((hk2.trans hk3).trans hk24).trans hk25).step hx26 (by intros; (try simp only [] at *); omega)).trans hk27).trans hk28).trans hk'))) ?_
            refine X.dTake 19 rfl (by kernel_rfl) (by kernel_rfl) (by kernel_rfl) (X.dwG rfl rfl rfl) (fun w' hk' => X.neD rfl rfl) ?_
            refine X.dTake 20 rfl (by kernel_rfl) (by kernel_rfl) (by kernel_rfl) (X.dwN rfl) (fun w' hk' => X.pickF (v := .bool _) rfl rfl) ?_
            refine X.dEnd (by kernel_rfl) ?_
            refine X.condB rfl (fun hc => ?_) (fun hc => ?_)
            · have q := of_decide_eq_true hc
              exact absurd (by rw [hc4]) q
            · refine X.skip ?_
              refine X.seq ?_
              refine X.region ?_
              refine X.opw X.wN rfl (X.move (v := .slice _ _ _) rfl) ?_
              refine X.opE X.wN rfl (X.callE (FromKey_c _ ((hs1.keep ((((((hk2.trans hk3).trans hk24).trans hk25).step hx26 (by intros; (try simp only [] at *); omega)).trans hk27).trans hk28)).wide (Nat.le_refl _) (by omega)) (by omega) (by omega)) Try.call29 rfl rfl) ?_
              rintro _ w30 ⟨v30, rfl, hM30, hk30⟩
              have hk30' := hk30.size
              refine X.opw X.wN rfl (X.move rfl) ?_
              refine X.opw X.wN rfl (X.extr rfl rfl) ?_
              refine X.opw X.wN rfl (X.extr rfl rfl) ?_
              refine X.opw X.wN rfl (X.assign rfl) ?_
              refine X.opw X.wN rfl (X.assign (v := .int .i64 _) rfl) ?_
              refine X.opsEnd ?_
              refine X.seq ?_
              refine X.seq ?_
              refine X.region ?_
              refine X.opw X.wN rfl (X.move (v := .int .i64 _) rfl) ?_
              refine X.opP X.wN rfl rfl (X.neI rfl rfl) (fun h85 => ?_) (fun h85 => ?_)
              · refine X.opsEnd ?_
                refine X.condT rfl ?_
                refine X.seq ?_
                refine X.region ?_
                refine X.opE X.wN rfl (X.callE (alive_c _) Try.call13 rfl rfl) ?_
                rintro _ w31 ⟨rfl, hk31⟩
                have hk31' := hk31.size
                refine X.opw X.wN rfl (X.assign (v := .bool _) rfl) ?_
                refine X.opsEnd ?_
                refine X.ret1 (v := (.bool _)) Try.func8 Try.results8 rfl ?_
                exact ⟨rfl, (((((((((hk1.trans hk2).trans hk3).trans hk24).trans hk25).step hx26 (by intros; (try simp only [] at *); omega)).trans hk27).trans hk28).trans hk30).trans hk31)⟩
              · obtain ⟨s, hp⟩ := Option.isSome_iff_exists.1 (n30 h85)
                obtain ⟨hkb, hT⟩ := pFrom_just hp
                simp only [hp, Option.getD_some] at hM30
                refine X.opsEnd ?_
                refine X.condF rfl ?_
                refine X.skip ?_
                refine X.seq ?_
                refine X.region ?_
                refine X.opw X.wN rfl (X.move rfl) ?_
                have q33 := hM30.slF KV_flat 0 (fun _ _ => Nat.zero_le _)
                obtain ⟨A33, c33, rfl, hc33, hs33⟩ := q33
                refine X.opE X.wN rfl (X.callE (KeyT_c hT _ hs33 (by omega)) Try.call11 rfl rfl) ?_
                rintro _ w32 ⟨v32, rfl, hM32, hk32⟩
                have hk32' := hk32.size
                refine X.opw X.wN rfl (X.move rfl) ?_
                refine X.opw X.wN rfl (X.extr rfl rfl) ?_
                refine X.opw X.wN rfl (X.extr rfl rfl) ?_
                refine X.opw X.wN rfl (X.assign rfl) ?_
                refine X.opw X.wN rfl (X.assign (v := .int .i64 _) rfl) ?_
                refine X.opsEnd ?_
                refine X.seq ?_
                refine X.region ?_
                refine X.opw X.wN rfl (X.move (v := .int .i64 _) rfl) ?_
                refine X.opP X.wN rfl rfl (X.eqI rfl rfl) (fun h93 => ?_) (fun h93 => ?_)
                · refine X.opw X.wN rfl (X.move (v := .bool true) rfl) ?_
                  refine X.opw (X.wG rfl rfl rfl) rfl (X.move rfl) ?_
                  have q34 := hM32.slF KB_flat 0 (fun _ _ => Nat.zero_le _)
                  obtain ⟨A34, c34, rfl, hc34, hs34⟩ := q34
                  refine X.opw (X.wG rfl rfl rfl) rfl (X.str Try.underlying25 Try.underlying5 Try.underlying9 rfl KB_is rfl hs34) ?_
                  refine X.opw (X.wG rfl rfl rfl) rfl (X.move (v := .slice _ _ _) rfl) ?_
                  refine X.opw (X.wG rfl rfl rfl) rfl (X.str Try.underlying25 Try.underlying5 Try.underlying9 rfl KB_is rfl (hs1.keep ((((((((hk2.trans hk3).trans hk24).trans hk25).step hx26 (by intros; (try simp only [] at *); omega)).trans hk27).trans hk28).trans hk30).trans hk32))) ?_
                  refine X.opP (X.wG rfl rfl rfl) rfl rfl (X.eqD rfl rfl) (fun h99 => ?_) (fun h99 => ?_)
                  · refine X.opw X.wN rfl (X.pickT (v := .bool true) rfl rfl) ?_
                    refine X.opw X.wN rfl (X.move (v := .bool true) rfl) ?_
                    refine X.opE (X.wG rfl rfl rfl) rfl (X.callE (alive_c _) Try.call13 rfl rfl) ?_
                    rintro _ w35 ⟨rfl, hk35⟩
                    have hk35' := hk35.size
                    refine X.opw X.wN rfl (X.pickT (v := .bool _) rfl rfl) ?_
                    refine X.opw X.wN rfl (X.assign (v := .bool _) rfl) ?_
                    refine X.opsEnd ?_
                    refine X.ret1 (v := (.bool _)) Try.func8 Try.results8 rfl ?_
                    exact ⟨rfl, ((((((((((hk1.trans hk2).trans hk3).trans hk24).trans hk25).step hx26 (by intros; (try simp only [] at *); omega)).trans hk27).trans hk28).trans hk30).trans hk32).trans hk35)⟩
                  · exact absurd (by rw [hkb]) h99
                · exact absurd rfl h93
    · refine X.opsEnd ?_
      refine X.condF rfl ?_
      refine X.skip ?_
      refine X.seq ?_
      refine X.region ?_
      refine X.opw X.wN rfl (X.move (v := .slice _ _ _) rfl) ?_
      refine X.opE X.wN rfl (X.callE (FromKey_c _ ((hs1.keep ((((hk2.trans hk3).trans hk24).trans hk25).step hx26 (by intros; (try simp only [] at *); omega))).wide (Nat.le_refl _) (by omega)) (by omega) (by omega)) Try.call29 rfl rfl) ?_
      rintro _ w36 ⟨v36, rfl, hM36, hk36⟩
      have hk36' := hk36.size
      refine X.opw X.wN rfl (X.move rfl) ?_
      refine X.opw X.wN rfl (X.extr rfl rfl) ?_
      refine X.opw X.wN rfl (X.extr rfl rfl) ?_
      refine X.opw X.wN rfl (X.assign rfl) ?_
      refine X.opw X.wN rfl (X.assign (v := .int .i64 _) rfl) ?_
      refine X.opsEnd ?_
      refine X.seq ?_
      refine X.seq ?_
      refine X.region ?_
      refine X.opw X.wN rfl (X.move (v := .int .i64 _) rfl) ?_
      refine X.opP X.wN rfl rfl (X.neI rfl rfl) (fun h85 => ?_) (fun h85 => ?_)
      · refine X.opsEnd ?_
        refine X.condT rfl ?_
        refine X.seq ?_
        refine X.region ?_
        refine X.opE X.wN rfl (X.callE (alive_c _) Try.call13 rfl rfl) ?_
        rintro _ w37 ⟨rfl, hk37⟩
        have hk37' := hk37.size
        refine X.opw X.wN rfl (X.assign (v := .bool _) rfl) ?_
        refine X.opsEnd ?_
        refine X.ret1 (v := (.bool _)) Try.func8 Try.results8 rfl ?_
        exact ⟨rfl, (((((((hk1.trans hk2).trans hk3).trans hk24).trans hk25).step hx26 (by intros; (try simp only [] at *); omega)).trans hk36).trans hk37)⟩
      · obtain ⟨s, hp⟩ := Option.isSome_iff_exists.1 (n30 h85)
        obtain ⟨hkb, hT⟩ := pFrom_just hp
        simp only [hp, Option.getD_some] at hM36
        refine X.opsEnd ?_
        refine X.condF rfl ?_
        refine X.skip ?_
        refine X.seq ?_
        refine X.region ?_
        refine X.opw X.wN rfl (X.move rfl) ?_
        have q39 := hM36.slF KV_flat 0 (fun _ _ => Nat.zero_le _)
        obtain ⟨A39, c39, rfl, hc39, hs39⟩ := q39
        refine X.opE X.wN rfl (X.callE (KeyT_c hT _ hs39 (by omega)) Try.call11 rfl rfl) ?_
        rintro _ w38 ⟨v38, rfl, hM38, hk38⟩
        have hk38' := hk38.size
        refine X.opw X.wN rfl (X.move rfl) ?_
        refine X.opw X.wN rfl (X.extr rfl rfl) ?_
        refine X.opw X.wN rfl (X.extr rfl rfl) ?_
        refine X.opw X.wN rfl (X.assign rfl) ?_
        refine X.opw X.wN rfl (X.assign (v := .int .i64 _) rfl) ?_
        refine X.opsEnd ?_
        refine X.seq ?_
        refine X.region ?_
        refine X.opw X.wN rfl (X.move (v := .int .i64 _) rfl) ?_
        refine X.opP X.wN rfl rfl (X.eqI rfl rfl) (fun h93 => ?_) (fun h93 => ?_)
        · refine X.opw X.wN rfl (X.move (v := .bool true) rfl) ?_
          refine X.opw (X.wG rfl rfl rfl) rfl (X.move rfl) ?_
          have q40 := hM38.slF KB_flat 0 (fun _ _ => Nat.zero_le _)
          obtain ⟨A40, c40, rfl, hc40, hs40⟩ := q40
          refine X.opw (X.wG rfl rfl rfl) rfl (X.str Try.underlying25 Try.underlying5 Try.underlying9 rfl KB_is rfl hs40) ?_
          refine X.opw (X.wG rfl rfl rfl) rfl (X.move (v := .slice _ _ _) rfl) ?_
          refine X.opw (X.wG rfl rfl rfl) rfl (X.str Try.underlying25 Try.underlying5 Try.underlying9 rfl KB_is rfl (hs1.keep ((((((hk2.trans hk3).trans hk24).trans hk25).step hx26 (by intros; (try simp only [] at *); omega)).trans hk36).trans hk38))) ?_
          refine X.opP (X.wG rfl rfl rfl) rfl rfl (X.eqD rfl rfl) (fun h99 => ?_) (fun h99 => ?_)
          · refine X.opw X.wN rfl (X.pickT (v := .bool true) rfl rfl) ?_
            refine X.opw X.wN rfl (X.move (v := .bool true) rfl) ?_
            refine X.opE (X.wG rfl rfl rfl) rfl (X.callE (alive_c _) Try.call13 rfl rfl) ?_
            rintro _ w41 ⟨rfl, hk41⟩
            have hk41' := hk41.size
            refine X.opw X.wN rfl (X.pickT (v := .bool _) rfl rfl) ?_
            refine X.opw X.wN rfl (X.assign (v := .bool _) rfl) ?_
            refine X.opsEnd ?_
            refine X.ret1 (v := (.bool _)) Try.func8 Try.results8 rfl ?_
            exact ⟨rfl, ((((((((hk1.trans hk2).trans hk3).trans hk24).trans hk25).step hx26 (by intros; (try simp only [] at *); omega)).trans hk36).trans hk38).trans hk41)⟩
          · exact absurd (by rw [hkb]) h99
        · exact absurd rfl h93
end Go.Proofs.Ytaclpphhidlgpaa
