/- The reference's TakeCounted; the walk of the law PackTakes. -/
import Derived.Test.YtaclpphhidlgpaaPackY
import Derived.Test.YtaclpphhidlgpaaPackZb
namespace Go.Proofs.Ytaclpphhidlgpaa
open Go Go.Proofs.Ytaclpphhidlgpaa.X
set_option linter.unusedVariables false
set_option linter.unusedSimpArgs false

theorem pTup_suffix {l : List UInt8} {b : List VAL × List UInt8} (h : pTup l = some b) : ∃ k : Nat, cnt (pTup l) l.length = (k : Int) ∧ b.2 = l.drop k ∧ k ≤ l.length := by
  obtain ⟨hj, _, _⟩ := pTup_just h
  have hl : l.length = (tupB b.1).length + b.2.length := by conv => lhs; rw [hj]; rw [List.length_append]
  refine ⟨(tupB b.1).length, by rw [h]; simp only [cnt]; omega, ?_, by omega⟩
  conv => rhs; rw [hj]
  simp
theorem pCnt_n1 {l : List UInt8} (h : pTup l = none) : pCnt l = none := by rw [pCnt, h]
theorem pCnt_n2 {l : List UInt8} {b : List VAL × List UInt8} (h : pTup l = some b) (h2 : pInt b.2 = none) : pCnt l = none := by rw [pCnt, h]; dsimp only; rw [h2]; rfl
theorem pCnt_s {l : List UInt8} {b : List VAL × List UInt8} {q : Int × List UInt8} (h : pTup l = some b) (h2 : pInt b.2 = some q) : pCnt l = some ((b.1, q.1), q.2) := by rw [pCnt, h]; dsimp only; rw [h2]; rfl
theorem RTakeTuple_s {lo hi : Nat} {A : Option Addr} {n c : Nat} {l : List UInt8} (w : World) (hs : Sl KB lo hi w A n l) (hnc : n ≤ c) (hn : n ≤ 1000000) : Ret Try.prog 38 #[.slice A n c] w fun r w' => ∃ A' c', r = .tuple #[.slice A' (told (pTup l) []).length c', .int .i64 (cnt (pTup l) n), .int .i64 (code (pTup l))] ∧ Mine KV 75 (fun k => w.heap.size ≤ k) 0 0 w' (.slice A' (told (pTup l) []).length c') (told (pTup l) []) ∧ Keep w w' :=
  (RTakeTuple_c w hs hnc hn).mono fun r w' ⟨v, h1, h2, h3⟩ => by
    obtain ⟨A', c', e, _, _⟩ := h2.slice
    subst e
    exact ⟨A', c', h1, h2, h3⟩
theorem cnt_bdI (l : List UInt8) : 0 ≤ cnt (pInt l) l.length ∧ cnt (pInt l) l.length ≤ (l.length : Int) := by
  rw [(told_int l l.length).2.1]; exact cnt_bd l
theorem cntV_one {K : Kd VAL} {e : TypeId} {S : Nat → Prop} {lo hi : Nat} {w : World} {v : Value} {xs : List VAL} {N : Int} (h : Mine K e S lo hi w v xs) : ∀ u ∈ [v, Value.int .i64 N], u.oneCell' = true := by
  intro u hu
  simp at hu
  rcases hu with rfl | rfl
  · obtain ⟨A, c, rfl, _⟩ := h.slice; rfl
  · rfl
-- f40 "pedigree/pedigreeref03.TakeCounted" params [25] results [42, 3, 3] -> [(ResultVar.cell 2 42), (ResultV
set_option maxHeartbeats 4000000 in
set_option maxRecDepth 100000 in
theorem RTakeCounted_c {lo hi : Nat} {A : Option Addr} {n c : Nat} {l : List UInt8} (w : World) (hs : Sl KB lo hi w A n l) (hnc : n ≤ c) (hn : n ≤ 1000000) : Ret Try.prog 40 #[.slice A n c] w fun r w' => ∃ v, r = .tuple #[.agg #[v, .int .i64 (told (pCnt l) ([], 0)).2], .int .i64 (cnt (pCnt l) n), .int .i64 (code (pCnt l))] ∧ Mine KV 75 (fun k => w.heap.size ≤ k) 0 0 w' v (told (pCnt l) ([], 0)).1 ∧ Keep w w' := by
  have hl := hs.len
  refine X.enter Try.func40 rfl Try.ntmps40 rfl ?_
  refine X.seq ?_
  refine X.region ?_
  refine X.opE X.wN rfl (X.allocE Try.zeroValue42 rfl) ?_
  rintro _ w1 ⟨rfl, hB1, hk1, hz1⟩
  refine X.opw X.wN rfl (X.assign rfl) ?_
  refine X.opw X.wN rfl (X.assign rfl) ?_
  refine X.opsEnd ?_
  refine X.seq ?_
  refine X.region ?_
  refine X.opw X.wN rfl (X.move (v := .slice _ _ _) rfl) ?_
  refine X.opE X.wN rfl (X.callE (RTakeTuple_s _ (hs.keep hk1) (by omega) (by omega)) Try.call38 rfl rfl) ?_
  rintro _ w2 ⟨A2, c2, rfl, hM2, hk2⟩
  have hk2' := hk2.size
  refine X.opw X.wN rfl (X.move rfl) ?_
  refine X.opw X.wN rfl (X.extr rfl rfl) ?_
  refine X.opw X.wN rfl (X.extr rfl rfl) ?_
  refine X.opw X.wN rfl (X.extr rfl rfl) ?_
  refine X.opw X.wN rfl (X.assign rfl) ?_
  refine X.opw X.wN rfl (X.assign (v := .int .i64 _) rfl) ?_
  refine X.opw X.wN rfl (X.assign (v := .int .i64 _) rfl) ?_
  refine X.opsEnd ?_
  refine X.seq ?_
  refine X.seq ?_
  refine X.region ?_
  refine X.opw X.wN rfl (X.move (v := .int .i64 _) rfl) ?_
  refine X.opP X.wN rfl rfl (X.neI rfl rfl) (fun h18 => ?_) (fun h18 => ?_)
  · have e1 := pCnt_n1 (code_1 h18)
    refine X.opsEnd ?_
    refine X.condT rfl ?_
    refine X.seq ?_
    refine X.region ?_
    refine X.opw X.wN rfl (X.buildB (vs := []) (cs := #[.slice none 0 0, .int .i64 0]) rfl (by kernel_rfl)) ?_
    refine X.opw X.wN rfl (X.move (v := .int .i64 _) rfl) ?_
    refine X.opE X.wN rfl (X.storeNE Try.sizeOf42 (hB1.keep hk2) rfl rfl rfl rfl (fun u hu => by simp at hu; rcases hu with rfl | rfl <;> rfl)) ?_
    rintro _ w3 ⟨hB3, hx3, hz3⟩
    refine X.opw X.wN rfl (X.assign rfl) ?_
    refine X.opw X.wN rfl (X.assign (v := .int .i64 _) rfl) ?_
    refine X.opsEnd ?_
    refine X.ret_unw (X.unwR3 Try.func40 Try.results40 (X.ResOk.cell rfl (X.lvN Try.isAgg42 Try.sizeOf42 hB3 rfl)) (show X.ResOk _ _ _ (.tmp 3) (.int .i64 _) from rfl) (show X.ResOk _ _ _ (.tmp 4) (.int .i64 _) from rfl) ?_)
    exact ⟨_, by rw [e1, code_1 h18]; rfl, by rw [e1]; exact (Mine.nil _ _ _ _ _ _), ((hk1.trans hk2).step hx3 (by intros; (try simp only [] at *); omega))⟩
  · obtain ⟨b0, hb0⟩ := code_0 h18
    obtain ⟨k0, hc1, hc2, hc3⟩ := pTup_suffix hb0
    rw [hl] at hc1 hc3
    refine X.opsEnd ?_
    refine X.condF rfl ?_
    refine X.skip ?_
    refine X.seq ?_
    refine X.region ?_
    refine X.opw X.wN rfl (X.move (v := .slice _ _ _) rfl) ?_
    refine X.opw X.wN rfl (X.move (v := .int .i64 _) rfl) ?_
    refine X.opw X.wN rfl (X.cutL Try.underlying25 Try.sizeOf5 rfl rfl (by omega)) ?_
    refine X.opE X.wN rfl (X.callE (RTakeInt_c _ ((show Sl KB lo hi w _ _ (l.drop k0) from by have e := hs.drop k0 c (by omega) hnc; rw [show (cnt (pTup l) n).toNat = k0 by omega]; exact e).keep (hk1.trans hk2)) (by omega) (by omega)) Try.call34 rfl rfl) ?_
    rintro _ w4 ⟨rfl, hk4⟩
    have hk4' := hk4.size
    refine X.opw X.wN rfl (X.move rfl) ?_
    refine X.opw X.wN rfl (X.extr rfl rfl) ?_
    refine X.opw X.wN rfl (X.extr rfl rfl) ?_
    refine X.opw X.wN rfl (X.extr rfl rfl) ?_
    refine X.opw X.wN rfl (X.assign (v := .int .i64 _) rfl) ?_
    refine X.opw X.wN rfl (X.assign (v := .int .i64 _) rfl) ?_
    refine X.opw X.wN rfl (X.assign (v := .int .i64 _) rfl) ?_
    refine X.opsEnd ?_
    refine X.seq ?_
    refine X.seq ?_
    refine X.region ?_
    refine X.opw X.wN rfl (X.move (v := .int .i64 _) rfl) ?_
    refine X.opP X.wN rfl rfl (X.neI rfl rfl) (fun h30 => ?_) (fun h30 => ?_)
    · have e1 := pCnt_n2 hb0 (by rw [hc2]; exact code_1 (by simpa [hc1] using h30))
      refine X.opsEnd ?_
      refine X.condT rfl ?_
      refine X.seq ?_
      refine X.region ?_
      refine X.opw X.wN rfl (X.buildB (vs := []) (cs := #[.slice none 0 0, .int .i64 0]) rfl (by kernel_rfl)) ?_
      refine X.opw X.wN rfl (X.move (v := .int .i64 _) rfl) ?_
      refine X.opE X.wN rfl (X.storeNE Try.sizeOf42 (hB1.keep (hk2.trans hk4)) rfl rfl rfl rfl (fun u hu => by simp at hu; rcases hu with rfl | rfl <;> rfl)) ?_
      rintro _ w5 ⟨hB5, hx5, hz5⟩
      refine X.opw X.wN rfl (X.assign rfl) ?_
      refine X.opw X.wN rfl (X.assign (v := .int .i64 _) rfl) ?_
      refine X.opsEnd ?_
      refine X.ret_unw (X.unwR3 Try.func40 Try.results40 (X.ResOk.cell rfl (X.lvN Try.isAgg42 Try.sizeOf42 hB5 rfl)) (show X.ResOk _ _ _ (.tmp 3) (.int .i64 _) from rfl) (show X.ResOk _ _ _ (.tmp 4) (.int .i64 _) from rfl) ?_)
      exact ⟨_, by rw [e1, code_1 h30]; rfl, by rw [e1]; exact (Mine.nil _ _ _ _ _ _), (((hk1.trans hk2).trans hk4).step hx5 (by intros; (try simp only [] at *); omega))⟩
    · obtain ⟨q0, hq0⟩ := code_0 h30
      refine X.opsEnd ?_
      refine X.condF rfl ?_
      refine X.skip ?_
      refine X.seq ?_
      refine X.region ?_
      refine X.opw X.wN rfl (X.move rfl) ?_
      refine X.opw X.wN rfl (X.move (v := .int .i64 _) rfl) ?_
      refine X.opw X.wN rfl (X.buildB (vs := [(0, .slice A2 _ c2), (1, .int .i64 (told (pInt (l.drop k0)) 0))]) (cs := #[.slice A2 (told (pTup l) []).length c2, .int .i64 (told (pInt (l.drop k0)) 0)]) rfl (by kernel_rfl)) ?_
      refine X.opw X.wN rfl (X.move (v := .int .i64 _) rfl) ?_
      refine X.opw X.wN rfl (X.move (v := .int .i64 _) rfl) ?_
      refine X.opw X.wN rfl (X.add (c := cnt (pTup l) n + cnt (pInt (l.drop k0)) (n - k0)) rfl rfl (by rw [show (cnt (pTup l) n).toNat = k0 by omega, X.w_i64 (by have := cnt_bdI (l.drop k0); rw [List.length_drop, hl] at this; omega)])) ?_
      refine X.opE X.wN rfl (X.storeNE Try.sizeOf42 (hB1.keep (hk2.trans hk4)) rfl rfl rfl rfl (fun u hu => by simp at hu; rcases hu with rfl | rfl <;> rfl)) ?_
      rintro _ w6 ⟨hB6, hx6, hz6⟩
      refine X.opw X.wN rfl (X.assign (v := .int .i64 _) rfl) ?_
      refine X.opw X.wN rfl (X.assign rfl) ?_
      refine X.opsEnd ?_
      refine X.ret_unw (X.unwR3 Try.func40 Try.results40 (X.ResOk.cell rfl (X.lvN Try.isAgg42 Try.sizeOf42 hB6 rfl)) (show X.ResOk _ _ _ (.tmp 3) (.int .i64 _) from rfl) (show X.ResOk _ _ _ (.tmp 4) (.int .i64 _) from rfl) ?_)
      have e1 := pCnt_s hb0 (by rw [hc2]; exact hq0)
      exact ⟨_, by rw [e1, hb0, hq0]; simp only [told, cnt, code, Option.isSome_some, if_true]; rw [show (n : Int) - (b0.2.length : Int) + (((n - k0 : Nat) : Int) - (q0.2.length : Int)) = (n : Int) - (q0.2.length : Int) by rw [hc2, List.length_drop, hl]; omega], by rw [e1]; rw [hb0] at hM2; exact (Mine.mono (T := fun k => w.heap.size ≤ k) ((hM2.keep hk4).ext hx6 (by intros; (try simp only []); omega) (by intros; (try simp only []); omega)) (fun k h1 h2 => by (try simp only [] at *); omega)), (((hk1.trans hk2).trans hk4).step hx6 (by intros; (try simp only [] at *); omega))⟩
theorem RtkCnt_2 {lo hi : Nat} {A : Option Addr} {n c : Nat} {l : List UInt8} (w : World) (hs : Sl KB lo hi w A n l) (hnc : n ≤ c) (hn : n ≤ 1000000) : Ret Try.prog 40 #[.slice A n c] w fun r w' => ∃ A' c', r = .tuple #[.agg #[.slice A' (told (pCnt l) ([], 0)).1.length c', .int .i64 (told (pCnt l) ([], 0)).2], .int .i64 (cnt (pCnt l) n), .int .i64 (code (pCnt l))] ∧ Sl KV 0 w'.heap.size w' A' (told (pCnt l) ([], 0)).1.length (told (pCnt l) ([], 0)).1 ∧ Keep w w' := by
  refine (RTakeCounted_c w hs hnc hn).mono fun r w' h' => ?_
  obtain ⟨v, h1, h2, h3⟩ := h'
  obtain ⟨A', c', e, hc, hs'⟩ := h2.slF KV_flat 0 (fun _ _ => Nat.zero_le _)
  subst e
  exact ⟨A', c', h1, hs', h3⟩
-- f7 "pedigree/pedigreelaw03.PackTakes" params [25, 3] results [4] -> [(ResultVar.tmp 4)] nfree 0 ntmps 181 n
set_option maxHeartbeats 4000000 in
set_option maxRecDepth 100000 in
theorem PackTakes_c (w : World) (A1 : Option Addr) (n1 c1 : Nat) (l1 : List UInt8) (hc1 : n1 ≤ c1) (s1 : Sl KB 0 w.heap.size w A1 n1 l1) (most : Int) (hmo : okI most) :
    Ret Try.prog 7 #[.slice A1 n1 c1, .int .i64 most] w fun r w' => r = .bool true ∧ Keep w w' := by
  refine X.enter Try.func7 rfl Try.ntmps7 rfl ?_
  refine X.seq ?_
  refine X.region ?_
  refine X.opw X.wN rfl (X.assign rfl) ?_
  refine X.opsEnd ?_
  refine X.seq ?_
  refine X.region ?_
  refine X.opw X.wN rfl (X.move (v := .slice _ _ _) rfl) ?_
  refine X.opE X.wN rfl (X.callE (short_c _ s1 (by omega)) Try.call15 rfl rfl) ?_
  rintro _ w1 ⟨m1, rfl, hmc1, hmt1, hs1, hk1⟩
  have hk1' := hk1.size
  refine X.opw X.wN rfl (X.assign (v := .slice _ _ _) rfl) ?_
  refine X.opsEnd ?_
  refine X.seq ?_
  refine X.region ?_
  refine X.opw X.wN rfl (X.move (v := .slice _ _ _) rfl) ?_
  refine X.opE X.wN rfl (X.callE (TakeNum_c _ (hs1.wide (Nat.le_refl _) (by omega)) (by omega) (by omega)) Try.call31 rfl rfl) ?_
  rintro _ w2 ⟨rfl, hk2⟩
  have hk2' := hk2.size
  refine X.opw X.wN rfl (X.move rfl) ?_
  refine X.opw X.wN rfl (X.extr rfl rfl) ?_
  refine X.opw X.wN rfl (X.extr rfl rfl) ?_
  refine X.opw X.wN rfl (X.extr rfl rfl) ?_
  refine X.opw X.wN rfl (X.assign (v := .int .u64 _) rfl) ?_
  refine X.opw X.wN rfl (X.assign (v := .int .i64 _) rfl) ?_
  refine X.opw X.wN rfl (X.assign (v := .int .i64 _) rfl) ?_
  refine X.opsEnd ?_
  refine X.seq ?_
  refine X.region ?_
  refine X.opw X.wN rfl (X.move (v := .slice _ _ _) rfl) ?_
  refine X.opE X.wN rfl (X.callE (RTakeNum_c _ ((hs1.keep hk2).wide (Nat.le_refl _) (by omega)) (by omega) (by omega)) Try.call32 rfl rfl) ?_
  rintro _ w3 ⟨rfl, hk3⟩
  have hk3' := hk3.size
  refine X.opw X.wN rfl (X.move rfl) ?_
  refine X.opw X.wN rfl (X.extr rfl rfl) ?_
  refine X.opw X.wN rfl (X.extr rfl rfl) ?_
  refine X.opw X.wN rfl (X.extr rfl rfl) ?_
  refine X.opw X.wN rfl (X.assign (v := .int .u64 _) rfl) ?_
  refine X.opw X.wN rfl (X.assign (v := .int .i64 _) rfl) ?_
  refine X.opw X.wN rfl (X.assign (v := .int .i64 _) rfl) ?_
  refine X.opsEnd ?_
  refine X.seq ?_
  refine X.seq ?_
  refine X.region ?_
  refine X.opw X.wN rfl (X.move (v := .int .i64 _) rfl) ?_
  refine X.opP X.wN rfl rfl (X.neI rfl rfl) (fun h50 => ?_) (fun h50 => ?_)
  · refine X.opsEnd ?_
    refine X.condT rfl ?_
    refine X.region ?_
    refine X.opw X.wN rfl (X.assign rfl) ?_
    refine X.opw X.wN rfl (X.assign rfl) ?_
    refine X.opsEnd ?_
    refine X.seq ?_
    refine X.seq ?_
    refine X.region ?_
    refine X.opw X.wN rfl (X.move (v := .int .u64 _) rfl) ?_
    refine X.opw X.wN rfl (X.move (v := .int .u64 _) rfl) ?_
    refine X.opP X.wN rfl rfl (X.neI rfl rfl) (fun h53 => ?_) (fun h53 => ?_)
    · first
      | exact absurd rfl h53
      | (rw [code_1 h50] at *; exact absurd rfl h53)
    · refine X.opw X.wN rfl (X.move (v := .bool false) rfl) ?_
      refine X.opw (X.wG rfl rfl rfl) rfl (X.move (v := .int .i64 _) rfl) ?_
      refine X.opw (X.wG rfl rfl rfl) rfl (X.move (v := .int .i64 _) rfl) ?_
      refine X.opP (X.wG rfl rfl rfl) rfl rfl (X.neI rfl rfl) (fun h57 => ?_) (fun h57 => ?_)
      · first
        | exact absurd rfl h57
        | (rw [code_1 h50] at *; exact absurd rfl h57)
      · refine X.opw X.wN rfl (X.pickF (v := .bool false) rfl rfl) ?_
        refine X.opw X.wN rfl (X.move (v := .bool false) rfl) ?_
        refine X.opw (X.wG rfl rfl rfl) rfl (X.move (v := .int .i64 _) rfl) ?_
        refine X.opw (X.wG rfl rfl rfl) rfl (X.move (v := .int .i64 _) rfl) ?_
        refine X.opP (X.wG rfl rfl rfl) rfl rfl (X.neI rfl rfl) (fun h62 => ?_) (fun h62 => ?_)
        · first
          | exact absurd rfl h62
          | (rw [code_1 h50] at *; exact absurd rfl h62)
        · refine X.opw X.wN rfl (X.pickF (v := .bool false) rfl rfl) ?_
          refine X.opsEnd ?_
          refine X.condF rfl ?_
          refine X.skip ?_
          refine X.seq ?_
          refine X.region ?_
          refine X.opw X.wN rfl (X.move (v := .slice _ _ _) rfl) ?_
          refine X.opE X.wN rfl (X.callE (TakeInt_c _ ((hs1.keep (hk2.trans hk3)).wide (Nat.le_refl _) (by omega)) (by omega) (by omega)) Try.call33 rfl rfl) ?_
          rintro _ w4 ⟨rfl, hk4⟩
          have hk4' := hk4.size
          refine X.opw X.wN rfl (X.move rfl) ?_
          refine X.opw X.wN rfl (X.extr rfl rfl) ?_
          refine X.opw X.wN rfl (X.extr rfl rfl) ?_
          refine X.opw X.wN rfl (X.extr rfl rfl) ?_
          refine X.opw X.wN rfl (X.assign (v := .int .i64 _) rfl) ?_
          refine X.opw X.wN rfl (X.assign (v := .int .i64 _) rfl) ?_
          refine X.opw X.wN rfl (X.assign (v := .int .i64 _) rfl) ?_
          refine X.opsEnd ?_
          refine X.seq ?_
          refine X.region ?_
          refine X.opw X.wN rfl (X.move (v := .slice _ _ _) rfl) ?_
          refine X.opE X.wN rfl (X.callE (RTakeInt_c _ ((hs1.keep ((hk2.trans hk3).trans hk4)).wide (Nat.le_refl _) (by omega)) (by omega) (by omega)) Try.call34 rfl rfl) ?_
          rintro _ w5 ⟨rfl, hk5⟩
          have hk5' := hk5.size
          refine X.opw X.wN rfl (X.move rfl) ?_
          refine X.opw X.wN rfl (X.extr rfl rfl) ?_
          refine X.opw X.wN rfl (X.extr rfl rfl) ?_
          refine X.opw X.wN rfl (X.extr rfl rfl) ?_
          refine X.opw X.wN rfl (X.assign (v := .int .i64 _) rfl) ?_
          refine X.opw X.wN rfl (X.assign (v := .int .i64 _) rfl) ?_
          refine X.opw X.wN rfl (X.assign (v := .int .i64 _) rfl) ?_
          refine X.opsEnd ?_
          refine X.seq ?_
          refine X.seq ?_
          refine X.region ?_
          refine X.opw X.wN rfl (X.move (v := .int .i64 _) rfl) ?_
          refine X.opw X.wN rfl (X.move (v := .int .i64 _) rfl) ?_
          refine X.opP X.wN rfl rfl (X.neI rfl rfl) (fun h78 => ?_) (fun h78 => ?_)
          · first
            | exact absurd rfl h78
            | (rw [code_1 h50] at *; exact absurd rfl h78)
          · refine X.opw X.wN rfl (X.move (v := .bool false) rfl) ?_
            refine X.opw (X.wG rfl rfl rfl) rfl (X.move (v := .int .i64 _) rfl) ?_
            refine X.opw (X.wG rfl rfl rfl) rfl (X.move (v := .int .i64 _) rfl) ?_
            refine X.opP (X.wG rfl rfl rfl) rfl rfl (X.neI rfl rfl) (fun h82 => ?_) (fun h82 => ?_)
            · first
              | exact absurd rfl h82
              | (rw [code_1 h50] at *; exact absurd rfl h82)
            · refine X.opw X.wN rfl (X.pickF (v := .bool false) rfl rfl) ?_
              refine X.opw X.wN rfl (X.move (v := .bool false) rfl) ?_
              refine X.opw (X.wG rfl rfl rfl) rfl (X.move (v := .int .i64 _) rfl) ?_
              refine X.opw (X.wG rfl rfl rfl) rfl (X.move (v := .int .i64 _) rfl) ?_
              refine X.opP (X.wG rfl rfl rfl) rfl rfl (X.neI rfl rfl) (fun h87 => ?_) (fun h87 => ?_)
              · first
                | exact absurd rfl h87
                | (rw [code_1 h50] at *; exact absurd rfl h87)
              · refine X.opw X.wN rfl (X.pickF (v := .bool false) rfl rfl) ?_
                refine X.opsEnd ?_
                refine X.condF rfl ?_
                refine X.skip ?_
                refine X.seq ?_
                refine X.region ?_
                refine X.opw X.wN rfl (X.move (v := .slice _ _ _) rfl) ?_
                refine X.opw X.wN rfl (X.move (v := .int .i64 _) rfl) ?_
                refine X.opE X.wN rfl (X.callE (TakeText_c most hmo _ ((hs1.keep (((hk2.trans hk3).trans hk4).trans hk5)).wide (Nat.le_refl _) (by omega)) (by omega) (by omega)) Try.call35 rfl rfl) ?_
                rintro _ w6 ⟨v6, rfl, hM6, hk6⟩
                have hk6' := hk6.size
                refine X.opw X.wN rfl (X.move rfl) ?_
                refine X.opw X.wN rfl (X.extr rfl rfl) ?_
                refine X.opw X.wN rfl (X.extr rfl rfl) ?_
                refine X.opw X.wN rfl (X.extr rfl rfl) ?_
                refine X.opw X.wN rfl (X.assign rfl) ?_
                refine X.opw X.wN rfl (X.assign (v := .int .i64 _) rfl) ?_
                refine X.opw X.wN rfl (X.assign (v := .int .i64 _) rfl) ?_
                refine X.opsEnd ?_
                refine X.seq ?_
                refine X.region ?_
                refine X.opw X.wN rfl (X.move (v := .slice _ _ _) rfl) ?_
                refine X.opw X.wN rfl (X.move (v := .int .i64 _) rfl) ?_
                refine X.opE X.wN rfl (X.callE (RTakeText_c most hmo _ ((hs1.keep ((((hk2.trans hk3).trans hk4).trans hk5).trans hk6)).wide (Nat.le_refl _) (by omega)) (by omega) (by omega)) Try.call36 rfl rfl) ?_
                rintro _ w7 ⟨v7, rfl, hM7, hk7⟩
                have hk7' := hk7.size
                refine X.opw X.wN rfl (X.move rfl) ?_
                refine X.opw X.wN rfl (X.extr rfl rfl) ?_
                refine X.opw X.wN rfl (X.extr rfl rfl) ?_
                refine X.opw X.wN rfl (X.extr rfl rfl) ?_
                refine X.opw X.wN rfl (X.assign rfl) ?_
                refine X.opw X.wN rfl (X.assign (v := .int .i64 _) rfl) ?_
                refine X.opw X.wN rfl (X.assign (v := .int .i64 _) rfl) ?_
                refine X.opsEnd ?_
                refine X.seq ?_
                refine X.seq ?_
                refine X.region ?_
                refine X.opw X.wN rfl (X.move rfl) ?_
                have q8 := (hM6.keep hk7).slF KB_flat 0 (fun _ _ => Nat.zero_le _)
                obtain ⟨A8, c8, rfl, hc8, hs8⟩ := q8
                refine X.opw X.wN rfl (X.str Try.underlying25 Try.underlying5 Try.underlying9 rfl KB_is rfl hs8) ?_
                refine X.opw X.wN rfl (X.move rfl) ?_
                have q9 := hM7.slF KB_flat 0 (fun _ _ => Nat.zero_le _)
                obtain ⟨A9, c9, rfl, hc9, hs9⟩ := q9
                refine X.opw X.wN rfl (X.str Try.underlying25 Try.underlying5 Try.underlying9 rfl KB_is rfl hs9) ?_
                refine X.opP X.wN rfl rfl (X.neD rfl rfl) (fun h107 => ?_) (fun h107 => ?_)
                · first
                  | exact absurd rfl h107
                  | (rw [code_1 h50] at *; exact absurd rfl h107)
                · refine X.opw X.wN rfl (X.move (v := .bool false) rfl) ?_
                  refine X.opw (X.wG rfl rfl rfl) rfl (X.move (v := .int .i64 _) rfl) ?_
                  refine X.opw (X.wG rfl rfl rfl) rfl (X.move (v := .int .i64 _) rfl) ?_
                  refine X.opP (X.wG rfl rfl rfl) rfl rfl (X.neI rfl rfl) (fun h111 => ?_) (fun h111 => ?_)
                  · first
                    | exact absurd rfl h111
                    | (rw [code_1 h50] at *; exact absurd rfl h111)
                  · refine X.opw X.wN rfl (X.pickF (v := .bool false) rfl rfl) ?_
                    refine X.opw X.wN rfl (X.move (v := .bool false) rfl) ?_
                    refine X.opw (X.wG rfl rfl rfl) rfl (X.move (v := .int .i64 _) rfl) ?_
                    refine X.opw (X.wG rfl rfl rfl) rfl (X.move (v := .int .i64 _) rfl) ?_
                    refine X.opP (X.wG rfl rfl rfl) rfl rfl (X.neI rfl rfl) (fun h116 => ?_) (fun h116 => ?_)
                    · first
                      | exact absurd rfl h116
                      | (rw [code_1 h50] at *; exact absurd rfl h116)
                    · refine X.opw X.wN rfl (X.pickF (v := .bool false) rfl rfl) ?_
                      refine X.opsEnd ?_
                      refine X.condF rfl ?_
                      refine X.skip ?_
                      refine X.seq ?_
                      refine X.region ?_
                      refine X.opw X.wN rfl (X.move (v := .slice _ _ _) rfl) ?_
                      refine X.opE X.wN rfl (X.callE (TakeTuple_c _ ((hs1.keep (((((hk2.trans hk3).trans hk4).trans hk5).trans hk6).trans hk7)).wide (Nat.le_refl _) (by omega)) (by omega) (by omega)) Try.call37 rfl rfl) ?_
                      rintro _ w10 ⟨v10, rfl, hM10, hk10⟩
                      have hk10' := hk10.size
                      refine X.opw X.wN rfl (X.move rfl) ?_
                      refine X.opw X.wN rfl (X.extr rfl rfl) ?_
                      refine X.opw X.wN rfl (X.extr rfl rfl) ?_
                      refine X.opw X.wN rfl (X.extr rfl rfl) ?_
                      refine X.opw X.wN rfl (X.assign rfl) ?_
                      refine X.opw X.wN rfl (X.assign (v := .int .i64 _) rfl) ?_
                      refine X.opw X.wN rfl (X.assign (v := .int .i64 _) rfl) ?_
                      refine X.opsEnd ?_
                      refine X.seq ?_
                      refine X.region ?_
                      refine X.opw X.wN rfl (X.move (v := .slice _ _ _) rfl) ?_
                      refine X.opE X.wN rfl (X.callE (RTakeTuple_c _ ((hs1.keep ((((((hk2.trans hk3).trans hk4).trans hk5).trans hk6).trans hk7).trans hk10)).wide (Nat.le_refl _) (by omega)) (by omega) (by omega)) Try.call38 rfl rfl) ?_
                      rintro _ w11 ⟨v11, rfl, hM11, hk11⟩
                      have hk11' := hk11.size
                      refine X.opw X.wN rfl (X.move rfl) ?_
                      refine X.opw X.wN rfl (X.extr rfl rfl) ?_
                      refine X.opw X.wN rfl (X.extr rfl rfl) ?_
                      refine X.opw X.wN rfl (X.extr rfl rfl) ?_
                      refine X.opw X.wN rfl (X.assign rfl) ?_
                      refine X.opw X.wN rfl (X.assign (v := .int .i64 _) rfl) ?_
                      refine X.opw X.wN rfl (X.assign (v := .int .i64 _) rfl) ?_
                      refine X.opsEnd ?_
                      refine X.seq ?_
                      refine X.seq ?_
                      refine X.region ?_
                      refine X.opw X.wN rfl (X.move rfl) ?_
                      refine X.opw X.wN rfl (X.move rfl) ?_
                      have q13 := (hM10.keep hk11).slF KV_flat 0 (fun _ _ => Nat.zero_le _)
                      obtain ⟨A13, c13, rfl, hc13, hs13⟩ := q13
                      have q14 := hM11.slF KV_flat 0 (fun _ _ => Nat.zero_le _)
                      obtain ⟨A14, c14, rfl, hc14, hs14⟩ := q14
                      refine X.opE X.wN rfl (X.callE (Same_c _ hs13 hs14 (by omega) (by omega)) Try.call20 rfl rfl) ?_
                      rintro _ w12 ⟨rfl, hk12⟩
                      have hk12' := hk12.size
                      refine X.opw X.wN rfl (X.not_ rfl) ?_
                      refine X.opw X.wN rfl (X.move (v := .bool _) rfl) ?_
                      refine X.forkO 134 rfl (fun h134 => ?_) (fun h134 => ?_)
                      · simp [cmpT_eq] at h134
                      · refine X.opw (X.wG rfl rfl rfl) rfl (X.move (v := .int .i64 _) rfl) ?_
                        refine X.opw (X.wG rfl rfl rfl) rfl (X.move (v := .int .i64 _) rfl) ?_
                        refine X.opP (X.wG rfl rfl rfl) rfl rfl (X.neI rfl rfl) (fun h137 => ?_) (fun h137 => ?_)
                        · first
                          | exact absurd rfl h137
                          | (rw [code_1 h50] at *; exact absurd rfl h137)
                        · refine X.opw X.wN rfl (X.pickF (v := .bool false) rfl rfl) ?_
                          refine X.opw X.wN rfl (X.move (v := .bool false) rfl) ?_
                          refine X.opw (X.wG rfl rfl rfl) rfl (X.move (v := .int .i64 _) rfl) ?_
                          refine X.opw (X.wG rfl rfl rfl) rfl (X.move (v := .int .i64 _) rfl) ?_
                          refine X.opP (X.wG rfl rfl rfl) rfl rfl (X.neI rfl rfl) (fun h142 => ?_) (fun h142 => ?_)
                          · first
                            | exact absurd rfl h142
                            | (rw [code_1 h50] at *; exact absurd rfl h142)
                          · refine X.opw X.wN rfl (X.pickF (v := .bool false) rfl rfl) ?_
                            refine X.opsEnd ?_
                            refine X.condF rfl ?_
                            refine X.skip ?_
                            refine X.seq ?_
                            refine X.region ?_
                            refine X.opw X.wN rfl (X.move (v := .slice _ _ _) rfl) ?_
                            refine X.opE X.wN rfl (X.callE (tkCnt_2 _ ((hs1.keep ((((((((hk2.trans hk3).trans hk4).trans hk5).trans hk6).trans hk7).trans hk10).trans hk11).trans hk12)).wide (Nat.le_refl _) (by omega)) (by omega) (by omega)) Try.call39 rfl rfl) ?_
                            rintro _ w15 ⟨A15, c15, rfl, hs15, hk15⟩
                            have hk15' := hk15.size
                            refine X.opw X.wN rfl (X.move rfl) ?_
                            refine X.opw X.wN rfl (X.extr rfl rfl) ?_
                            refine X.opw X.wN rfl (X.extr rfl rfl) ?_
                            refine X.opw X.wN rfl (X.extr rfl rfl) ?_
                            refine X.opE X.wN rfl (X.allocE Try.zeroValue42 rfl) ?_
                            rintro _ w16 ⟨rfl, hB16, hk16, hz16⟩
                            refine X.opE X.wN rfl (X.storeNE Try.sizeOf42 hB16 rfl rfl rfl rfl (fun u hu => by simp at hu; rcases hu with rfl | rfl <;> rfl)) ?_
                            rintro _ w17 ⟨hB17, hx17, hz17⟩
                            refine X.opw X.wN rfl (X.assign (v := .int .i64 _) rfl) ?_
                            refine X.opw X.wN rfl (X.assign (v := .int .i64 _) rfl) ?_
                            refine X.opsEnd ?_
                            refine X.seq ?_
                            refine X.region ?_
                            refine X.opw X.wN rfl (X.move (v := .slice _ _ _) rfl) ?_
                            refine X.opE X.wN rfl (X.callE (RtkCnt_2 _ ((hs1.keep (((((((((((hk2.trans hk3).trans hk4).trans hk5).trans hk6).trans hk7).trans hk10).trans hk11).trans hk12).trans hk15).trans hk16).step hx17 (by intros; (try simp only [] at *); omega))).wide (Nat.le_refl _) (by omega)) (by omega) (by omega)) Try.call40 rfl rfl) ?_
                            rintro _ w18 ⟨A18, c18, rfl, hs18, hk18⟩
                            have hk18' := hk18.size
                            refine X.opw X.wN rfl (X.move rfl) ?_
                            refine X.opw X.wN rfl (X.extr rfl rfl) ?_
                            refine X.opw X.wN rfl (X.extr rfl rfl) ?_
                            refine X.opw X.wN rfl (X.extr rfl rfl) ?_
                            refine X.opE X.wN rfl (X.allocE Try.zeroValue42 rfl) ?_
                            rintro _ w19 ⟨rfl, hB19, hk19, hz19⟩
                            refine X.opE X.wN rfl (X.storeNE Try.sizeOf42 hB19 rfl rfl rfl rfl (fun u hu => by simp at hu; rcases hu with rfl | rfl <;> rfl)) ?_
                            rintro _ w20 ⟨hB20, hx20, hz20⟩
                            refine X.opw X.wN rfl (X.assign (v := .int .i64 _) rfl) ?_
                            refine X.opw X.wN rfl (X.assign (v := .int .i64 _) rfl) ?_
                            refine X.opsEnd ?_
                            refine X.seq ?_
                            refine X.region ?_
                            refine X.opw X.wN rfl (X.fldB (j := 0) Try.underlying42 rfl rfl Try.sizeOf23 rfl) ?_
                            refine X.opw X.wN rfl (X.load1B Try.isAgg23 (hB17.keep ((hk18.trans hk19).step hx20 (by intros; (try simp only [] at *); omega))) rfl rfl) ?_
                            refine X.opw X.wN rfl (X.fldB (j := 0) Try.underlying42 rfl rfl Try.sizeOf23 rfl) ?_
                            refine X.opw X.wN rfl (X.load1B Try.isAgg23 hB20 rfl rfl) ?_
                            refine X.opE X.wN rfl (X.callE (Same_c _ (hs15.keep ((((hk16.step hx17 (by intros; (try simp only [] at *); omega)).trans hk18).trans hk19).step hx20 (by intros; (try simp only [] at *); omega))) (hs18.keep (hk19.step hx20 (by intros; (try simp only [] at *); omega))) (by omega) (by omega)) Try.call20 rfl rfl) ?_
                            rintro _ w21 ⟨rfl, hk21⟩
                            have hk21' := hk21.size
                            refine X.opw X.wN rfl (X.move (v := .bool _) rfl) ?_
                            refine X.forkO 161 rfl (fun h161 => ?_) (fun h161 => ?_)
                            · refine X.opw (X.wG rfl rfl rfl) rfl (X.fldB (j := 1) Try.underlying42 rfl rfl Try.sizeOf2 rfl) ?_
                              refine X.opw (X.wG rfl rfl rfl) rfl (X.load1B Try.isAgg2 (hB17.keep (((hk18.trans hk19).step hx20 (by intros; (try simp only [] at *); omega)).trans hk21)) rfl rfl) ?_
                              refine X.opw (X.wG rfl rfl rfl) rfl (X.fldB (j := 1) Try.underlying42 rfl rfl Try.sizeOf2 rfl) ?_
                              refine X.opw (X.wG rfl rfl rfl) rfl (X.load1B Try.isAgg2 (hB20.keep hk21) rfl rfl) ?_
                              refine X.opP (X.wG rfl rfl rfl) rfl rfl (X.eqI rfl rfl) (fun h166 => ?_) (fun h166 => ?_)
                              · refine X.opw X.wN rfl (X.pickT (v := .bool true) rfl rfl) ?_
                                refine X.opw X.wN rfl (X.move (v := .bool true) rfl) ?_
                                refine X.opw (X.wG rfl rfl rfl) rfl (X.move (v := .int .i64 _) rfl) ?_
                                refine X.opw (X.wG rfl rfl rfl) rfl (X.move (v := .int .i64 _) rfl) ?_
                                refine X.opP (X.wG rfl rfl rfl) rfl rfl (X.eqI rfl rfl) (fun h171 => ?_) (fun h171 => ?_)
                                · refine X.opw X.wN rfl (X.pickT (v := .bool true) rfl rfl) ?_
                                  refine X.opw X.wN rfl (X.move (v := .bool true) rfl) ?_
                                  refine X.opw (X.wG rfl rfl rfl) rfl (X.move (v := .int .i64 _) rfl) ?_
                                  refine X.opw (X.wG rfl rfl rfl) rfl (X.move (v := .int .i64 _) rfl) ?_
                                  refine X.opP (X.wG rfl rfl rfl) rfl rfl (X.eqI rfl rfl) (fun h176 => ?_) (fun h176 => ?_)
                                  · refine X.opw X.wN rfl (X.pickT (v := .bool true) rfl rfl) ?_
                                    refine X.opw X.wN rfl (X.move (v := .bool true) rfl) ?_
                                    refine X.opE (X.wG rfl rfl rfl) rfl (X.callE (alive_c _) Try.call13 rfl rfl) ?_
                                    rintro _ w22 ⟨rfl, hk22⟩
                                    have hk22' := hk22.size
                                    refine X.opw X.wN rfl (X.pickT (v := .bool _) rfl rfl) ?_
                                    refine X.opw X.wN rfl (X.assign (v := .bool _) rfl) ?_
                                    refine X.opsEnd ?_
                                    refine X.ret1 (v := (.bool _)) Try.func7 Try.results7 rfl ?_
                                    exact ⟨rfl, (((((((((((((((((hk1.trans hk2).trans hk3).trans hk4).trans hk5).trans hk6).trans hk7).trans hk10).trans hk11).trans hk12).trans hk15).trans hk16).step hx17 (by intros; (try simp only [] at *); omega)).trans hk18).trans hk19).step hx20 (by intros; (try simp only [] at *); omega)).trans hk21).trans hk22)⟩
                                  · exact absurd rfl h176
                                · exact absurd rfl h171
                              · exact absurd rfl h166
                            · simp [cmpT_eq] at h161
  · refine X.opsEnd ?_
    refine X.condF rfl ?_
    refine X.skip ?_
    refine X.seq ?_
    refine X.seq ?_
    refine X.region ?_
    refine X.opw X.wN rfl (X.move (v := .int .u64 _) rfl) ?_
    refine X.opw X.wN rfl (X.move (v := .int .u64 _) rfl) ?_
    refine X.opP X.wN rfl rfl (X.neI rfl rfl) (fun h53 => ?_) (fun h53 => ?_)
    · first
      | exact absurd rfl h53
      | (rw [code_1 h50] at *; exact absurd rfl h53)
    · refine X.opw X.wN rfl (X.move (v := .bool false) rfl) ?_
      refine X.opw (X.wG rfl rfl rfl) rfl (X.move (v := .int .i64 _) rfl) ?_
      refine X.opw (X.wG rfl rfl rfl) rfl (X.move (v := .int .i64 _) rfl) ?_
      refine X.opP (X.wG rfl rfl rfl) rfl rfl (X.neI rfl rfl) (fun h57 => ?_) (fun h57 => ?_)
      · first
        | exact absurd rfl h57
        | (rw [code_1 h50] at *; exact absurd rfl h57)
      · refine X.opw X.wN rfl (X.pickF (v := .bool false) rfl rfl) ?_
        refine X.opw X.wN rfl (X.move (v := .bool false) rfl) ?_
        refine X.opw (X.wG rfl rfl rfl) rfl (X.move (v := .int .i64 _) rfl) ?_
        refine X.opw (X.wG rfl rfl rfl) rfl (X.move (v := .int .i64 _) rfl) ?_
        refine X.opP (X.wG rfl rfl rfl) rfl rfl (X.neI rfl rfl) (fun h62 => ?_) (fun h62 => ?_)
        · first
          | exact absurd rfl h62
          | (rw [code_1 h50] at *; exact absurd rfl h62)
        · refine X.opw X.wN rfl (X.pickF (v := .bool false) rfl rfl) ?_
          refine X.opsEnd ?_
          refine X.condF rfl ?_
          refine X.skip ?_
          refine X.seq ?_
          refine X.region ?_
          refine X.opw X.wN rfl (X.move (v := .slice _ _ _) rfl) ?_
          refine X.opE X.wN rfl (X.callE (TakeInt_c _ ((hs1.keep (hk2.trans hk3)).wide (Nat.le_refl _) (by omega)) (by omega) (by omega)) Try.call33 rfl rfl) ?_
          rintro _ w23 ⟨rfl, hk23⟩
          have hk23' := hk23.size
          refine X.opw X.wN rfl (X.move rfl) ?_
          refine X.opw X.wN rfl (X.extr rfl rfl) ?_
          refine X.opw X.wN rfl (X.extr rfl rfl) ?_
          refine X.opw X.wN rfl (X.extr rfl rfl) ?_
          refine X.opw X.wN rfl (X.assign (v := .int .i64 _) rfl) ?_
          refine X.opw X.wN rfl (X.assign (v := .int .i64 _) rfl) ?_
          refine X.opw X.wN rfl (X.assign (v := .int .i64 _) rfl) ?_
          refine X.opsEnd ?_
          refine X.seq ?_
          refine X.region ?_
          refine X.opw X.wN rfl (X.move (v := .slice _ _ _) rfl) ?_
          refine X.opE X.wN rfl (X.callE (RTakeInt_c _ ((hs1.keep ((hk2.trans hk3).trans hk23)).wide (Nat.le_refl _) (by omega)) (by omega) (by omega)) Try.call34 rfl rfl) ?_
          rintro _ w24 ⟨rfl, hk24⟩
          have hk24' := hk24.size
          refine X.opw X.wN rfl (X.move rfl) ?_
          refine X.opw X.wN rfl (X.extr rfl rfl) ?_
          refine X.opw X.wN rfl (X.extr rfl rfl) ?_
          refine X.opw X.wN rfl (X.extr rfl rfl) ?_
          refine X.opw X.wN rfl (X.assign (v := .int .i64 _) rfl) ?_
          refine X.opw X.wN rfl (X.assign (v := .int .i64 _) rfl) ?_
          refine X.opw X.wN rfl (X.assign (v := .int .i64 _) rfl) ?_
          refine X.opsEnd ?_
          refine X.seq ?_
          refine X.seq ?_
          refine X.region ?_
          refine X.opw X.wN rfl (X.move (v := .int .i64 _) rfl) ?_
          refine X.opw X.wN rfl (X.move (v := .int .i64 _) rfl) ?_
          refine X.opP X.wN rfl rfl (X.neI rfl rfl) (fun h78 => ?_) (fun h78 => ?_)
          · first
            | exact absurd rfl h78
            | (rw [code_1 h50] at *; exact absurd rfl h78)
          · refine X.opw X.wN rfl (X.move (v := .bool false) rfl) ?_
            refine X.opw (X.wG rfl rfl rfl) rfl (X.move (v := .int .i64 _) rfl) ?_
            refine X.opw (X.wG rfl rfl rfl) rfl (X.move (v := .int .i64 _) rfl) ?_
            refine X.opP (X.wG rfl rfl rfl) rfl rfl (X.neI rfl rfl) (fun h82 => ?_) (fun h82 => ?_)
            · first
              | exact absurd rfl h82
              | (rw [code_1 h50] at *; exact absurd rfl h82)
            · refine X.opw X.wN rfl (X.pickF (v := .bool false) rfl rfl) ?_
              refine X.opw X.wN rfl (X.move (v := .bool false) rfl) ?_
              refine X.opw (X.wG rfl rfl rfl) rfl (X.move (v := .int .i64 _) rfl) ?_
              refine X.opw (X.wG rfl rfl rfl) rfl (X.move (v := .int .i64 _) rfl) ?_
              refine X.opP (X.wG rfl rfl rfl) rfl rfl (X.neI rfl rfl) (fun h87 => ?_) (fun h87 => ?_)
              · first
                | exact absurd rfl h87
                | (rw [code_1 h50] at *; exact absurd rfl h87)
              · refine X.opw X.wN rfl (X.pickF (v := .bool false) rfl rfl) ?_
                refine X.opsEnd ?_
                refine X.condF rfl ?_
                refine X.skip ?_
                refine X.seq ?_
                refine X.region ?_
                refine X.opw X.wN rfl (X.move (v := .slice _ _ _) rfl) ?_
                refine X.opw X.wN rfl (X.move (v := .int .i64 _) rfl) ?_
                refine X.opE X.wN rfl (X.callE (TakeText_c most hmo _ ((hs1.keep (((hk2.trans hk3).trans hk23).trans hk24)).wide (Nat.le_refl _) (by omega)) (by omega) (by omega)) Try.call35 rfl rfl) ?_
                rintro _ w25 ⟨v25, rfl, hM25, hk25⟩
                have hk25' := hk25.size
                refine X.opw X.wN rfl (X.move rfl) ?_
                refine X.opw X.wN rfl (X.extr rfl rfl) ?_
                refine X.opw X.wN rfl (X.extr rfl rfl) ?_
                refine X.opw X.wN rfl (X.extr rfl rfl) ?_
                refine X.opw X.wN rfl (X.assign rfl) ?_
                refine X.opw X.wN rfl (X.assign (v := .int .i64 _) rfl) ?_
                refine X.opw X.wN rfl (X.assign (v := .int .i64 _) rfl) ?_
                refine X.opsEnd ?_
                refine X.seq ?_
                refine X.region ?_
                refine X.opw X.wN rfl (X.move (v := .slice _ _ _) rfl) ?_
                refine X.opw X.wN rfl (X.move (v := .int .i64 _) rfl) ?_
                refine X.opE X.wN rfl (X.callE (RTakeText_c most hmo _ ((hs1.keep ((((hk2.trans hk3).trans hk23).trans hk24).trans hk25)).wide (Nat.le_refl _) (by omega)) (by omega) (by omega)) Try.call36 rfl rfl) ?_
                rintro _ w26 ⟨v26, rfl, hM26, hk26⟩
                have hk26' := hk26.size
                refine X.opw X.wN rfl (X.move rfl) ?_
                refine X.opw X.wN rfl (X.extr rfl rfl) ?_
                refine X.opw X.wN rfl (X.extr rfl rfl) ?_
                refine X.opw X.wN rfl (X.extr rfl rfl) ?_
                refine X.opw X.wN rfl (X.assign rfl) ?_
                refine X.opw X.wN rfl (X.assign (v := .int .i64 _) rfl) ?_
                refine X.opw X.wN rfl (X.assign (v := .int .i64 _) rfl) ?_
                refine X.opsEnd ?_
                refine X.seq ?_
                refine X.seq ?_
                refine X.region ?_
                refine X.opw X.wN rfl (X.move rfl) ?_
                have q27 := (hM25.keep hk26).slF KB_flat 0 (fun _ _ => Nat.zero_le _)
                obtain ⟨A27, c27, rfl, hc27, hs27⟩ := q27
                refine X.opw X.wN rfl (X.str Try.underlying25 Try.underlying5 Try.underlying9 rfl KB_is rfl hs27) ?_
                refine X.opw X.wN rfl (X.move rfl) ?_
                have q28 := hM26.slF KB_flat 0 (fun _ _ => Nat.zero_le _)
                obtain ⟨A28, c28, rfl, hc28, hs28⟩ := q28
                refine X.opw X.wN rfl (X.str Try.underlying25 Try.underlying5 Try.underlying9 rfl KB_is rfl hs28) ?_
                refine X.opP X.wN rfl rfl (X.neD rfl rfl) (fun h107 => ?_) (fun h107 => ?_)
                · first
                  | exact absurd rfl h107
                  | (rw [code_1 h50] at *; exact absurd rfl h107)
                · refine X.opw X.wN rfl (X.move (v := .bool false) rfl) ?_
                  refine X.opw (X.wG rfl rfl rfl) rfl (X.move (v := .int .i64 _) rfl) ?_
                  refine X.opw (X.wG rfl rfl rfl) rfl (X.move (v := .int .i64 _) rfl) ?_
                  refine X.opP (X.wG rfl rfl rfl) rfl rfl (X.neI rfl rfl) (fun h111 => ?_) (fun h111 => ?_)
                  · first
                    | exact absurd rfl h111
                    | (rw [code_1 h50] at *; exact absurd rfl h111)
                  · refine X.opw X.wN rfl (X.pickF (v := .bool false) rfl rfl) ?_
                    refine X.opw X.wN rfl (X.move (v := .bool false) rfl) ?_
                    refine X.opw (X.wG rfl rfl rfl) rfl (X.move (v := .int .i64 _) rfl) ?_
                    refine X.opw (X.wG rfl rfl rfl) rfl (X.move (v := .int .i64 _) rfl) ?_
                    refine X.opP (X.wG rfl rfl rfl) rfl rfl (X.neI rfl rfl) (fun h116 => ?_) (fun h116 => ?_)
                    · first
                      | exact absurd rfl h116
                      | (rw [code_1 h50] at *; exact absurd rfl h116)
                    · refine X.opw X.wN rfl (X.pickF (v := .bool false) rfl rfl) ?_
                      refine X.opsEnd ?_
                      refine X.condF rfl ?_
                      refine X.skip ?_
                      refine X.seq ?_
                      refine X.region ?_
                      refine X.opw X.wN rfl (X.move (v := .slice _ _ _) rfl) ?_
                      refine X.opE X.wN rfl (X.callE (TakeTuple_c _ ((hs1.keep (((((hk2.trans hk3).trans hk23).trans hk24).trans hk25).trans hk26)).wide (Nat.le_refl _) (by omega)) (by omega) (by omega)) Try.call37 rfl rfl) ?_
                      rintro _ w29 ⟨v29, rfl, hM29, hk29⟩
                      have hk29' := hk29.size
                      refine X.opw X.wN rfl (X.move rfl) ?_
                      refine X.opw X.wN rfl (X.extr rfl rfl) ?_
                      refine X.opw X.wN rfl (X.extr rfl rfl) ?_
                      refine X.opw X.wN rfl (X.extr rfl rfl) ?_
                      refine X.opw X.wN rfl (X.assign rfl) ?_
                      refine X.opw X.wN rfl (X.assign (v := .int .i64 _) rfl) ?_
                      refine X.opw X.wN rfl (X.assign (v := .int .i64 _) rfl) ?_
                      refine X.opsEnd ?_
                      refine X.seq ?_
                      refine X.region ?_
                      refine X.opw X.wN rfl (X.move (v := .slice _ _ _) rfl) ?_
                      refine X.opE X.wN rfl (X.callE (RTakeTuple_c _ ((hs1.keep ((((((hk2.trans hk3).trans hk23).trans hk24).trans hk25).trans hk26).trans hk29)).wide (Nat.le_refl _) (by omega)) (by omega) (by omega)) Try.call38 rfl rfl) ?_
                      rintro _ w30 ⟨v30, rfl, hM30, hk30⟩
                      have hk30' := hk30.size
                      refine X.opw X.wN rfl (X.move rfl) ?_
                      refine X.opw X.wN rfl (X.extr rfl rfl) ?_
                      refine X.opw X.wN rfl (X.extr rfl rfl) ?_
                      refine X.opw X.wN rfl (X.extr rfl rfl) ?_
                      refine X.opw X.wN rfl (X.assign rfl) ?_
                      refine X.opw X.wN rfl (X.assign (v := .int .i64 _) rfl) ?_
                      refine X.opw X.wN rfl (X.assign (v := .int .i64 _) rfl) ?_
                      refine X.opsEnd ?_
                      refine X.seq ?_
                      refine X.seq ?_
                      refine X.region ?_
                      refine X.opw X.wN rfl (X.move rfl) ?_
                      refine X.opw X.wN rfl (X.move rfl) ?_
                      have q32 := (hM29.keep hk30).slF KV_flat 0 (fun _ _ => Nat.zero_le _)
                      obtain ⟨A32, c32, rfl, hc32, hs32⟩ := q32
                      have q33 := hM30.slF KV_flat 0 (fun _ _ => Nat.zero_le _)
                      obtain ⟨A33, c33, rfl, hc33, hs33⟩ := q33
                      refine X.opE X.wN rfl (X.callE (Same_c _ hs32 hs33 (by omega) (by omega)) Try.call20 rfl rfl) ?_
                      rintro _ w31 ⟨rfl, hk31⟩
                      have hk31' := hk31.size
                      refine X.opw X.wN rfl (X.not_ rfl) ?_
                      refine X.opw X.wN rfl (X.move (v := .bool _) rfl) ?_
                      refine X.forkO 134 rfl (fun h134 => ?_) (fun h134 => ?_)
                      · simp [cmpT_eq] at h134
                      · refine X.opw (X.wG rfl rfl rfl) rfl (X.move (v := .int .i64 _) rfl) ?_
                        refine X.opw (X.wG rfl rfl rfl) rfl (X.move (v := .int .i64 _) rfl) ?_
                        refine X.opP (X.wG rfl rfl rfl) rfl rfl (X.neI rfl rfl) (fun h137 => ?_) (fun h137 => ?_)
                        · first
                          | exact absurd rfl h137
                          | (rw [code_1 h50] at *; exact absurd rfl h137)
                        · refine X.opw X.wN rfl (X.pickF (v := .bool false) rfl rfl) ?_
                          refine X.opw X.wN rfl (X.move (v := .bool false) rfl) ?_
                          refine X.opw (X.wG rfl rfl rfl) rfl (X.move (v := .int .i64 _) rfl) ?_
                          refine X.opw (X.wG rfl rfl rfl) rfl (X.move (v := .int .i64 _) rfl) ?_
                          refine X.opP (X.wG rfl rfl rfl) rfl rfl (X.neI rfl rfl) (fun h142 => ?_) (fun h142 => ?_)
                          · first
                            | exact absurd rfl h142
                            | (rw [code_1 h50] at *; exact absurd rfl h142)
                          · refine X.opw X.wN rfl (X.pickF (v := .bool false) rfl rfl) ?_
                            refine X.opsEnd ?_
                            refine X.condF rfl ?_
                            refine X.skip ?_
                            refine X.seq ?_
                            refine X.region ?_
                            refine X.opw X.wN rfl (X.move (v := .slice _ _ _) rfl) ?_
                            refine X.opE X.wN rfl (X.callE (tkCnt_2 _ ((hs1.keep ((((((((hk2.trans hk3).trans hk23).trans hk24).trans hk25).trans hk26).trans hk29).trans hk30).trans hk31)).wide (Nat.le_refl _) (by omega)) (by omega) (by omega)) Try.call39 rfl rfl) ?_
                            rintro _ w34 ⟨A34, c34, rfl, hs34, hk34⟩
                            have hk34' := hk34.size
                            refine X.opw X.wN rfl (X.move rfl) ?_
                            refine X.opw X.wN rfl (X.extr rfl rfl) ?_
                            refine X.opw X.wN rfl (X.extr rfl rfl) ?_
                            refine X.opw X.wN rfl (X.extr rfl rfl) ?_
                            refine X.opE X.wN rfl (X.allocE Try.zeroValue42 rfl) ?_
                            rintro _ w35 ⟨rfl, hB35, hk35, hz35⟩
                            refine X.opE X.wN rfl (X.storeNE Try.sizeOf42 hB35 rfl rfl rfl rfl (fun u hu => by simp at hu; rcases hu with rfl | rfl <;> rfl)) ?_
                            rintro _ w36 ⟨hB36, hx36, hz36⟩
                            refine X.opw X.wN rfl (X.assign (v := .int .i64 _) rfl) ?_
                            refine X.opw X.wN rfl (X.assign (v := .int .i64 _) rfl) ?_
                            refine X.opsEnd ?_
                            refine X.seq ?_
                            refine X.region ?_
                            refine X.opw X.wN rfl (X.move (v := .slice _ _ _) rfl) ?_
                            refine X.opE X.wN rfl (X.callE (RtkCnt_2 _ ((hs1.keep (((((((((((hk2.trans hk3).trans hk23).trans hk24).trans hk25).trans hk26).trans hk29).trans hk30).trans hk31).trans hk34).trans hk35).step hx36 (by intros; (try simp only [] at *); omega))).wide (Nat.le_refl _) (by omega)) (by omega) (by omega)) Try.call40 rfl rfl) ?_
                            rintro _ w37 ⟨A37, c37, rfl, hs37, hk37⟩
                            have hk37' := hk37.size
                            refine X.opw X.wN rfl (X.move rfl) ?_
                            refine X.opw X.wN rfl (X.extr rfl rfl) ?_
                            refine X.opw X.wN rfl (X.extr rfl rfl) ?_
                            refine X.opw X.wN rfl (X.extr rfl rfl) ?_
                            refine X.opE X.wN rfl (X.allocE Try.zeroValue42 rfl) ?_
                            rintro _ w38 ⟨rfl, hB38, hk38, hz38⟩
                            refine X.opE X.wN rfl (X.storeNE Try.sizeOf42 hB38 rfl rfl rfl rfl (fun u hu => by simp at hu; rcases hu with rfl | rfl <;> rfl)) ?_
                            rintro _ w39 ⟨hB39, hx39, hz39⟩
                            refine X.opw X.wN rfl (X.assign (v := .int .i64 _) rfl) ?_
                            refine X.opw X.wN rfl (X.assign (v := .int .i64 _) rfl) ?_
                            refine X.opsEnd ?_
                            refine X.seq ?_
                            refine X.region ?_
                            refine X.opw X.wN rfl (X.fldB (j := 0) Try.underlying42 rfl rfl Try.sizeOf23 rfl) ?_
                            refine X.opw X.wN rfl (X.load1B Try.isAgg23 (hB36.keep ((hk37.trans hk38).step hx39 (by intros; (try simp only [] at *); omega))) rfl rfl) ?_
                            refine X.opw X.wN rfl (X.fldB (j := 0) Try.underlying42 rfl rfl Try.sizeOf23 rfl) ?_
                            refine X.opw X.wN rfl (X.load1B Try.isAgg23 hB39 rfl rfl) ?_
                            refine X.opE X.wN rfl (X.callE (Same_c _ (hs34.keep ((((hk35.step hx36 (by intros; (try simp only [] at *); omega)).trans hk37).trans hk38).step hx39 (by intros; (try simp only [] at *); omega))) (hs37.keep (hk38.step hx39 (by intros; (try simp only [] at *); omega))) (by omega) (by omega)) Try.call20 rfl rfl) ?_
                            rintro _ w40 ⟨rfl, hk40⟩
                            have hk40' := hk40.size
                            refine X.opw X.wN rfl (X.move (v := .bool _) rfl) ?_
                            refine X.forkO 161 rfl (fun h161 => ?_) (fun h161 => ?_)
                            · refine X.opw (X.wG rfl rfl rfl) rfl (X.fldB (j := 1) Try.underlying42 rfl rfl Try.sizeOf2 rfl) ?_
                              refine X.opw (X.wG rfl rfl rfl) rfl (X.load1B Try.isAgg2 (hB36.keep (((hk37.trans hk38).step hx39 (by intros; (try simp only [] at *); omega)).trans hk40)) rfl rfl) ?_
                              refine X.opw (X.wG rfl rfl rfl) rfl (X.fldB (j := 1) Try.underlying42 rfl rfl Try.sizeOf2 rfl) ?_
                              refine X.opw (X.wG rfl rfl rfl) rfl (X.load1B Try.isAgg2 (hB39.keep hk40) rfl rfl) ?_
                              refine X.opP (X.wG rfl rfl rfl) rfl rfl (X.eqI rfl rfl) (fun h166 => ?_) (fun h166 => ?_)
                              · refine X.opw X.wN rfl (X.pickT (v := .bool true) rfl rfl) ?_
                                refine X.opw X.wN rfl (X.move (v := .bool true) rfl) ?_
                                refine X.opw (X.wG rfl rfl rfl) rfl (X.move (v := .int .i64 _) rfl) ?_
                                refine X.opw (X.wG rfl rfl rfl) rfl (X.move (v := .int .i64 _) rfl) ?_
                                refine X.opP (X.wG rfl rfl rfl) rfl rfl (X.eqI rfl rfl) (fun h171 => ?_) (fun h171 => ?_)
                                · refine X.opw X.wN rfl (X.pickT (v := .bool true) rfl rfl) ?_
                                  refine X.opw X.wN rfl (X.move (v := .bool true) rfl) ?_
                                  refine X.opw (X.wG rfl rfl rfl) rfl (X.move (v := .int .i64 _) rfl) ?_
                                  refine X.opw (X.wG rfl rfl rfl) rfl (X.move (v := .int .i64 _) rfl) ?_
                                  refine X.opP (X.wG rfl rfl rfl) rfl rfl (X.eqI rfl rfl) (fun h176 => ?_) (fun h176 => ?_)
                                  · refine X.opw X.wN rfl (X.pickT (v := .bool true) rfl rfl) ?_
                                    refine X.opw X.wN rfl (X.move (v := .bool true) rfl) ?_
                                    refine X.opE (X.wG rfl rfl rfl) rfl (X.callE (alive_c _) Try.call13 rfl rfl) ?_
                                    rintro _ w41 ⟨rfl, hk41⟩
                                    have hk41' := hk41.size
                                    refine X.opw X.wN rfl (X.pickT (v := .bool _) rfl rfl) ?_
                                    refine X.opw X.wN rfl (X.assign (v := .bool _) rfl) ?_
                                    refine X.opsEnd ?_
                                    refine X.ret1 (v := (.bool _)) Try.func7 Try.results7 rfl ?_
                                    exact ⟨rfl, (((((((((((((((((hk1.trans hk2).trans hk3).trans hk23).trans hk24).trans hk25).trans hk26).trans hk29).trans hk30).trans hk31).trans hk34).trans hk35).step hx36 (by intros; (try simp only [] at *); omega)).trans hk37).trans hk38).step hx39 (by intros; (try simp only [] at *); omega)).trans hk40).trans hk41)⟩
                                  · exact absurd rfl h176
                                · exact absurd rfl h171
                              · exact absurd rfl h166
                            · simp [cmpT_eq] at h161
end Go.Proofs.Ytaclpphhidlgpaa
