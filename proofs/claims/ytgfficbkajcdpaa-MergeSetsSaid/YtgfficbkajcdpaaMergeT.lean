/- The walk of the law MergeSets. -/
import Derived.Test.YtgfficbkajcdpaaMergeS
import Derived.Test.YtgfficbkajcdpaaProg
namespace Go.Proofs.Ytgfficbkajcdpaa
open Go Go.Proofs.Ytgfficbkajcdpaa.X
set_option linter.unusedVariables false
set_option linter.unusedSimpArgs false
abbrev rowV (b : Nat) : Value := .slice (some ⟨b, 0, none⟩) 1 1
theorem blk_sl {b : Nat} {x : TH} {w : World} (h : Blk w b [.int .i8 x.1, .int .i64 x.2] 29) : Sl KTh b (b + 1) w (some ⟨b, 0, none⟩) 1 [x] := by
  have hM : Mine KTh 29 (fun k => k = b) 0 0 w (rowV b) [x] := Mine.litV (vs := [evT x]) KTh_flat (w0 := w) h (repsT x) rfl (by omega) rfl
  obtain ⟨A, c, e1, _, hs⟩ := (hM.flat KTh_flat (lo' := b) (hi' := b + 1)).sl (fun k _ hk => by have hk : k = b := hk; omega)
  injection e1 with e1 e2 e3
  rw [e1]; exact hs
theorem rows_blks {lo hi : Nat} {w : World} : ∀ (bs : List Nat) (l : List TH), bs.length = l.length → (∀ (j b : Nat), bs[j]? = some b → ∃ x, l[j]? = some x ∧ Blk w b [.int .i8 x.1, .int .i64 x.2] 29) → (∀ b, b ∈ bs → lo ≤ b ∧ b < hi) → SlRows KTh lo hi w (bs.map rowV) (l.map fun x => [x])
  | [], [], _, _, _ => trivial
  | b :: bs, x :: l, hl, hb, hr => by
    obtain ⟨y, h1, h2⟩ := hb 0 b rfl
    have hx : x = y := by simpa using h1
    subst hx
    have hbb := hr b (List.mem_cons_self ..)
    exact ⟨⟨_, 1, 1, rfl, Nat.le_refl _, (blk_sl h2).wide (by omega) (by omega)⟩, rows_blks bs l (by simpa using hl) (fun j b h => by
      obtain ⟨x, h1, h2⟩ := hb (j + 1) b (by simpa using h)
      exact ⟨x, by simpa using h1, h2⟩) (fun b h => hr b (List.mem_cons_of_mem _ h))⟩
  | [], _ :: _, h, _, _ => by simp at h
  | _ :: _, [], h, _, _ => by simp at h
theorem tot_single (l : List TH) : ∀ n, totL (LL (l.map fun x => [x])) n ≤ n
  | 0 => Nat.le_refl _
  | n + 1 => by
    have := tot_single l n
    have h2 : (LL (l.map fun x => [x]) n).length ≤ 1 := by
      rw [LL, List.getD_eq_getElem?_getD, List.getElem?_map]
      cases l[n]? <;> simp
    rw [totL]; omega
-- f31 "pedigree/pedigreelaw09.single" params [24] results [24] -> [(ResultVar.tmp 2)] nfree 0 ntmps 23 names 
set_option maxHeartbeats 4000000 in
set_option maxRecDepth 100000 in
theorem single_c {lo hi : Nat} {A : Option Addr} {n c : Nat} {l : List TH} (w : World) (hs : Sl KTh lo hi w A n l) (hnc : n ≤ c) (hhi : hi ≤ w.heap.size) : Ret Try.prog 31 #[.slice A n c] w fun r w' => ∃ A c, r = .slice A (mgC (l.take 30).length (LL ((l.take 30).map fun x => [x]))).length c ∧ (mgC (l.take 30).length (LL ((l.take 30).map fun x => [x]))).length ≤ c ∧ Sl KTh w.heap.size w'.heap.size w' A (mgC (l.take 30).length (LL ((l.take 30).map fun x => [x]))).length (mgC (l.take 30).length (LL ((l.take 30).map fun x => [x]))) ∧ (mgC (l.take 30).length (LL ((l.take 30).map fun x => [x]))).length ≤ 30 ∧ Keep w w' := by
  have hl := hs.len
  refine X.enter Try.func31 rfl Try.ntmps31 rfl ?_
  refine X.seq ?_
  refine X.region ?_
  refine X.opw X.wN rfl (X.assign rfl) ?_
  refine X.opsEnd ?_
  refine X.seq ?_
  refine X.region ?_
  refine X.opw X.wN rfl (X.move (v := .slice _ _ _) rfl) ?_
  refine X.opE X.wN rfl (X.callE (short_c _ hs hnc) Try.call19 rfl rfl) ?_
  rintro _ w1 ⟨mq, rfl, hmc, hm3, hsq, hk1⟩
  have hk1' := hk1.size
  refine X.opw X.wN rfl (X.assign (v := .slice _ _ _) rfl) ?_
  refine X.opsEnd ?_
  refine X.seq ?_
  refine X.region ?_
  refine X.opw X.wN rfl (X.assign rfl) ?_
  refine X.opsEnd ?_
  refine X.seq ?_
  refine X.seq ?_
  refine X.region ?_
  refine X.opw X.wN rfl (X.assign rfl) ?_
  refine X.opsEnd ?_
  refine X.block ?_
  -- LOOP live: 0=l, 3=rows*, 4=i*
  have hl30 := hsq.len
  refine X.loopL (σ := Nat × Value × List Nat) (fun s => [(0, .slice A mq c), (3, s.2.1), (4, .int .i64 (s.1 : Int))]) (fun s w' => Sl KTh lo hi w' A mq (l.take 30) ∧ s.2.2.length = s.1 ∧ s.1 ≤ mq ∧ Mine KR1 24 (fun k => w.heap.size ≤ k ∧ k ∉ s.2.2) 0 0 w' s.2.1 (s.2.2.map rowV) ∧ (∀ (i b : Nat), s.2.2[i]? = some b → ∃ x, (l.take 30)[i]? = some x ∧ Blk w' b [.int .i8 x.1, .int .i64 x.2] 29) ∧ (∀ b, b ∈ s.2.2 → w.heap.size ≤ b ∧ b < w'.heap.size) ∧ Keep w w') (fun s => mq - s.1) (0, _, []) ⟨rfl, rfl, rfl, trivial⟩ ⟨hsq, rfl, Nat.zero_le _, Mine.nil _ _ _ _ _ _, fun i b h => by simp at h, fun b h => by simp at h, hk1⟩ ?_
  rintro ⟨j, v, bs⟩ b0 wl ⟨hsl, hj, hjn, hM, hbk, hbb, hk⟩ hback
  dsimp only
  simp only at hj hjn hM hbk hbb
  have hk' := hk.size
  refine X.seq ?_
  refine X.seq ?_
  refine X.region ?_
  refine X.opw X.wN rfl (X.move (v := .int .i64 _) rfl) ?_
  refine X.opw X.wN rfl (X.move (v := .slice _ _ _) rfl) ?_
  refine X.opw X.wN rfl (X.lenSl Try.underlying24 rfl) ?_
  refine X.opP X.wN rfl rfl (X.lss rfl rfl) (fun h10 => ?_) (fun h10 => ?_)
  · obtain ⟨x, hxj⟩ := get2 j hl30 (by omega)
    refine X.opsEnd ?_
    refine X.condT rfl ?_
    refine X.skip ?_
    refine X.seq ?_
    refine X.block ?_
    refine X.region ?_
    refine X.opw X.wN rfl (X.move rfl) ?_
    refine X.opw X.wN rfl (X.move (v := .slice _ _ _) rfl) ?_
    refine X.opw X.wN rfl (X.move (v := .int .i64 _) rfl) ?_
    refine X.opw X.wN rfl (X.idxS hsl Try.underlying24 Try.sizeOf29 rfl rfl ⟨by omega, by omega⟩) ?_
    refine X.opw X.wN rfl (X.loadSN Try.isAgg29 Try.sizeOf29 hsl hxj rfl (fun _ h => h.1) rfl) ?_
    refine X.opE X.wN rfl (X.litKF KTh_flat (K := KTh) (xs := [Operand.tmp 17]) (vs := [evT x]) (ys := [x]) Try.underlying24 Try.sizeOf29 Try.zeroValue29 rfl rfl rfl rfl rfl (repsT x)) ?_
    rintro _ w2 ⟨rfl, hs2, hB2, hk2, hz2⟩
    refine X.opE X.wN rfl (X.litKF KR1_flat (K := KR1) (xs := [Operand.tmp 18]) (vs := [rowV (wl.heap.size)]) (ys := [rowV (wl.heap.size)]) Try.underlying22 Try.sizeOf24 Try.zeroValue24 rfl rfl rfl rfl rfl (reps_1 rfl rfl)) ?_
    rintro _ w3 ⟨rfl, hs3, hB3, hk3, hz3⟩
    have hbb1 : ∀ x, x ∈ bs ++ [wl.heap.size] → w.heap.size ≤ x ∧ x < w3.heap.size := fun x h => (List.mem_append.1 h).elim (fun h => by have := hbb x h; omega) (fun h => by have := List.mem_singleton.1 h; omega)
    refine X.opE X.wN rfl (X.appE (K := KR1) (S := fun k => w.heap.size ≤ k ∧ k ∉ bs ++ [wl.heap.size]) KR1_flat Try.underlying22 ERw rfl rfl ((hM.mono (T := fun k => w.heap.size ≤ k ∧ k ∉ bs ++ [wl.heap.size]) (fun k hk hs => ⟨hs.1, fun h => (List.mem_append.1 h).elim hs.2 (fun h => by have := List.mem_singleton.1 h; omega)⟩)).keep (hk2.trans hk3)) hs3 (by rw [List.length_map]; (try simp only [List.length_singleton]); omega) (fun k hk => ⟨by omega, fun h => by have := hbb1 k h; omega⟩)) ?_
    rintro v4 w4 ⟨hM4, hx4⟩
    have hx4' := hx4.size
    refine X.opw X.wN rfl (X.assign rfl) ?_
    refine X.opsEnd ?_
    refine X.inBlock ?_
    refine X.region ?_
    refine X.opw X.wN rfl (X.move (v := .int .i64 _) rfl) ?_
    refine X.opw X.wN rfl (X.add rfl rfl (X.w_i64 (by omega))) ?_
    refine X.opw X.wN rfl (X.assign (v := .int .i64 _) rfl) ?_
    refine X.opsEnd ?_
    have hblk : ∀ (i x : Nat), (bs ++ [wl.heap.size])[i]? = some x → ∃ y, (l.take 30)[i]? = some y ∧ Blk w4 x [.int .i8 y.1, .int .i64 y.2] 29 := by
      intro i x hix
      by_cases hi : i < bs.length
      · rw [List.getElem?_append_left hi] at hix
        obtain ⟨y, h1, h2⟩ := hbk i x hix
        exact ⟨y, h1, (h2.keep (hk2.trans hk3)).ext hx4 (fun h => h.2 (List.mem_append.2 (.inl (List.mem_of_getElem? hix))))⟩
      · rw [List.getElem?_append_right (by omega)] at hix
        have h0 : i - bs.length = 0 := by
          have := (List.getElem?_eq_some_iff.1 hix).1
          simp at this; omega
        rw [h0] at hix
        simp at hix
        rw [← hix, show i = j by omega]
        exact ⟨_, hxj, ((hB2.keep hk3)).ext hx4 (fun h => h.2 (List.mem_append.2 (.inr (List.mem_singleton.2 rfl))))⟩
    have hbb2 : ∀ x, x ∈ bs ++ [wl.heap.size] → w.heap.size ≤ x ∧ x < w4.heap.size := fun x hx => by have := hbb1 x hx; omega
    refine hback (j + 1, _, bs ++ [wl.heap.size]) _ _ ⟨rfl, rfl, rfl, trivial⟩ ⟨((hsl.keep (hk2.trans hk3)).ext hx4 (by intros; (try simp only []); omega)), by dsimp only; rw [List.length_append, hj]; rfl, by dsimp only; omega, by dsimp only; rw [List.map_append]; exact hM4, hblk, hbb2, (((hk.trans hk2).trans hk3).step hx4 (by intros; (try simp only [] at *); omega))⟩ (by dsimp only; omega)
  · have hml : (bs.map rowV).length = mq := by rw [List.length_map]; omega
    refine X.opsEnd ?_
    refine X.condF rfl ?_
    refine X.exit rfl ?_
    refine X.seq ?_
    refine X.region ?_
    refine X.opw X.wN rfl (X.move rfl) ?_
    have q6 := hM.slF KR1_flat 0 (fun _ _ => Nat.zero_le _)
    obtain ⟨A6, c6, rfl, hc6, hs6⟩ := q6
    refine X.opE X.wN rfl (X.callE ((RMerge_c _ hs6 (rows_blks bs (l.take 30) (by omega) hbk hbb) (by omega) (by omega) (by omega) (by have := tot_single (l.take 30) (bs.map rowV).length; omega)).mono fun _ _ h => fresh_t h) Try.call25 rfl rfl) ?_
    rintro _ w5 ⟨A5, c5, rfl, hc5, hs5, hk5⟩
    have hk5' := hk5.size
    refine X.opw X.wN rfl (X.assign (v := .slice _ _ _) rfl) ?_
    refine X.opsEnd ?_
    refine X.ret1 Try.func31 Try.results31 rfl ?_
    rw [hl30, ← hml]
    exact ⟨_, _, rfl, by omega, hs5.wide (by omega) (by omega), by have := mgC_len _ (bs.map rowV).length (LL ((l.take 30).map fun x => [x])) rfl; have := tot_single (l.take 30) (bs.map rowV).length; omega, (hk.trans hk5)⟩
end Go.Proofs.Ytgfficbkajcdpaa
