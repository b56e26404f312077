/- Texts that the proof of RunWrites stands on, part 12. -/
import Derived.Test.YtbljooblpfdbiaaGreatDoorProg
import Derived.Test.YtbljooblpfdbiaaGreatDoorBunRunWrites11
set_option linter.unusedSimpArgs false
set_option linter.unusedVariables false
namespace Go.Proofs.YtbljooblpfdbiaaGreatDoor
open Go Go.Proofs.YtbljooblpfdbiaaGreatDoor.X
theorem NumN_c (k : Nat) (h : k ≤ 1000000000) (w : World) : Ret Tryz.prog 52 #[.int .u64 (k : Int)] w fun v w' => FreshB w w' v (numB k) := by
  have := Num_c (k : Int) (by omega) (by omega) w
  rwa [Int.toNat_natCast] at this
theorem RNumN_c (k : Nat) (h : k ≤ 1000000000) (w : World) : Ret Tryz.prog 55 #[.int .u64 (k : Int)] w fun v w' => FreshB w w' v (numB k) := by
  have := RNum_c (k : Int) (by omega) (by omega) w
  rwa [Int.toNat_natCast] at this
set_option maxHeartbeats 4000000 in
set_option maxRecDepth 100000 in
theorem sealed_c {lo hi : Nat} {A : Option Addr} {n c : Nat} {l : List CD} (w : World) (hs : Sl KC lo hi w A n l) (hhi : hi ≤ w.heap.size) (hn : n ≤ 100) (hok : Oks l) (hnc : n ≤ c) (hTb : TabOk w) : Ret Tryz.prog 50 #[.slice A n c] w fun r w' => FreshB w w' r (pageB l) := by
  obtain ⟨L, hsL, hLl, hLt⟩ := kc_hd hs
  have hsl := hs.len
  have hsb := hs.bound
  refine X.enter Tryz.func50 rfl Tryz.ntmps50 rfl ?_
  refine X.seq ?_
  refine X.region ?_
  refine X.opw X.wN rfl (X.assign rfl) ?_
  refine X.opsEnd ?_
  refine X.seq ?_
  refine X.region ?_
  refine X.opw X.wN rfl (X.move (v := .slice _ _ _) rfl) ?_
  refine X.opw X.wN rfl (X.lenSl Tryz.underlying22 rfl) ?_
  refine X.opw X.wN rfl (X.cvI Tryz.underlying3 Tryz.underlying119 rfl (X.w_u64 (by omega))) ?_
  refine X.opE X.wN rfl (X.callE (NumN_c _ (by omega) _) Tryz.call52 rfl rfl) ?_
  rintro v1 w1 ⟨hM1, hk1⟩
  have hk1' := hk1.size
  refine X.opw X.wN rfl (X.assign rfl) ?_
  refine X.opsEnd ?_
  refine X.seq ?_
  refine X.seq ?_
  refine X.region ?_
  refine X.opw X.wN rfl (X.move (v := .slice _ _ _) rfl) ?_
  refine X.opw X.wN rfl (X.lenSl Tryz.underlying22 rfl) ?_
  refine X.opw X.wN rfl (X.move rfl) ?_
  refine X.opsEnd ?_
  refine X.block ?_
  have hM0 := hM1
  refine X.loopL (σ := Nat × Value) (fun s => [(3, s.2), (10, .slice A n c), (11, .int .i64 (n : Int)), (12, .int .i64 (s.1 : Int))]) (fun s w' => s.1 ≤ n ∧ Mine KB 5 (fun k => w.heap.size ≤ k) 0 0 w' s.2 (numB n ++ (l.take s.1).flatMap entB) ∧ Keep w w') (fun s => n - s.1) (0, v1) ⟨rfl, rfl, rfl, rfl, trivial⟩ ⟨by omega, (by simpa using hM0), hk1⟩ ?_
  rintro ⟨i, bv⟩ b w1 ⟨hi, hM, hk⟩ hback
  dsimp only at hi hM
  have hk0 := hk.size
  refine X.seq ?_
  refine X.region ?_
  refine X.opP X.wN rfl rfl (X.lss rfl rfl) (fun h13 => ?_) (fun h13 => ?_)
  · obtain ⟨x, hx⟩ : ∃ x, L[i]? = some x := ⟨_, List.getElem?_eq_getElem (by omega)⟩
    obtain ⟨q, hq, eq, oq, nq, ht⟩ := hLt _ _ hx
    have hbq := entB_le (hok q (List.mem_of_getElem? hq))
    have hbt := ents_le (p := l.take i) (hok.sub fun z hz => List.mem_of_mem_take hz)
    rw [List.length_take, Nat.min_eq_left (by omega)] at hbt
    have hbn := numB_le (k := n) (by omega)
    refine X.opsEnd ?_
    refine X.seq ?_
    refine X.condT rfl ?_
    refine X.skip ?_
    refine X.seq ?_
    refine X.block ?_
    refine X.seq ?_
    refine X.region ?_
    refine X.opw X.wN rfl (X.idxS (hsL.keep hk) Tryz.underlying22 Tryz.sizeOf40 rfl rfl ⟨by omega, by omega⟩) ?_
    refine X.opw X.wN rfl (X.loadSN Tryz.isAgg40 Tryz.sizeOf40 (hsL.keep hk) hx rfl (fun _ h => h.1) rfl) ?_
    refine X.opE X.wN rfl (X.allocE Tryz.zeroValue40 rfl) ?_
    rintro _ w2 ⟨rfl, hB2, hk2, hz2⟩
    refine X.opE X.wN rfl (X.storeNE Tryz.sizeOf40 hB2 rfl rfl rfl rfl (fun u hu => by simp at hu; rcases hu with rfl | rfl <;> rfl)) ?_
    rintro _ w3 ⟨hB3, hx3, hz3⟩
    refine X.opsEnd ?_
    refine X.region ?_
    refine X.opw X.wN rfl (X.move rfl) ?_
    refine X.opw X.wN rfl (X.loadNB Tryz.isAgg40 Tryz.sizeOf40 hB3 rfl rfl rfl) ?_
    refine X.opE X.wN rfl (X.callE (entry_c (q := q) _ (ht.keep ((hk.trans hk2).step hx3 zq26)) (by omega) (by rw [eq]; exact oq) eq) Tryz.call102 rfl rfl) ?_
    rintro v4 w4 ⟨hM4, hk4⟩
    have hk4' := hk4.size
    have q5 := hM4.slF KB_flat 0 (fun _ _ => Nat.zero_le _)
    obtain ⟨A5, c5, rfl, hc5, hs5⟩ := q5
    refine X.opE X.wN rfl (X.appE (K := KB) (S := fun k => w.heap.size ≤ k) KB_flat Tryz.underlying43 E5 rfl rfl (hM.keep ((hk2.step hx3 zq26).trans hk4)) hs5 zq9 zq26) ?_
    rintro v6 w6 ⟨hM6, hx6⟩
    have hx6' := hx6.size
    refine X.opw X.wN rfl (X.assign rfl) ?_
    refine X.opsEnd ?_
    refine X.inBlock ?_
    refine X.region ?_
    refine X.opw X.wN rfl (X.add rfl rfl (X.w_i64 (by omega))) ?_
    refine X.opw X.wN rfl (X.move (v := .int .i64 _) rfl) ?_
    refine X.opsEnd ?_
    refine hback (i + 1, v6) _ _ ⟨rfl, rfl, rfl, rfl, trivial⟩ ⟨by (try dsimp only); omega, by (try dsimp only); rw [flat_step entB hq, ← List.append_assoc]; exact hM6, ((((hk.trans hk2).step hx3 zq26).trans hk4).step hx6 zq26)⟩ (by (try dsimp only); omega)
  · have hin : i = n := by omega
    subst hin
    rw [List.take_of_length_le (by omega)] at hM
    have hbt := ents_le hok
    rw [hsl] at hbt
    have hbn := numB_le (k := i) (by omega)
    refine X.opsEnd ?_
    refine X.seq ?_
    refine X.condF rfl ?_
    refine X.exit rfl ?_
    refine X.seq ?_
    refine X.region ?_
    refine X.opw X.wN rfl (X.move rfl) ?_
    have q8 := hM.slF KB_flat 0 (fun _ _ => Nat.zero_le _)
    obtain ⟨A8, c8, rfl, hc8, hs8⟩ := q8
    refine X.opE X.wN rfl (X.callE (Seal_c _ hs8 (by omega) (by assumption) (by first | omega | (simp only [List.length_append]; omega)) (hTb.keep hk)) Tryz.call54 rfl rfl) ?_
    rintro v7 w7 ⟨hM7, hk7⟩
    have hk7' := hk7.size
    refine X.opw X.wN rfl (X.assign rfl) ?_
    refine X.opsEnd ?_
    refine X.ret1 Tryz.func50 Tryz.results50 rfl ?_
    rw [pageB, hsl]
    exact ⟨hM7.mono (fun k _ hk => by (try simp only [] at *); omega), (hk.trans hk7)⟩
set_option maxHeartbeats 4000000 in
set_option maxRecDepth 100000 in
theorem RpageBytes_c {lo hi : Nat} {A : Option Addr} {n c : Nat} {l : List CD} (w : World) (hs : Sl KC lo hi w A n l) (hhi : hi ≤ w.heap.size) (hn : n ≤ 100) (hok : Oks l) (hnc : n ≤ c) : Ret Tryz.prog 56 #[.slice A n c] w fun r w' => FreshB w w' r (pageB l) := by
  obtain ⟨L, hsL, hLl, hLt⟩ := kc_hd hs
  have hsl := hs.len
  have hsb := hs.bound
  refine X.enter Tryz.func56 rfl Tryz.ntmps56 rfl ?_
  refine X.seq ?_
  refine X.region ?_
  refine X.opw X.wN rfl (X.assign rfl) ?_
  refine X.opsEnd ?_
  refine X.seq ?_
  refine X.region ?_
  refine X.opw X.wN rfl (X.move (v := .slice _ _ _) rfl) ?_
  refine X.opw X.wN rfl (X.lenSl Tryz.underlying22 rfl) ?_
  refine X.opw X.wN rfl (X.cvI Tryz.underlying3 Tryz.underlying119 rfl (X.w_u64 (by omega))) ?_
  refine X.opE X.wN rfl (X.callE (RNumN_c _ (by omega) _) Tryz.call55 rfl rfl) ?_
  rintro v1 w1 ⟨hM1, hk1⟩
  have hk1' := hk1.size
  refine X.opw X.wN rfl (X.assign rfl) ?_
  refine X.opsEnd ?_
  refine X.seq ?_
  refine X.seq ?_
  refine X.region ?_
  refine X.opw X.wN rfl (X.assign rfl) ?_
  refine X.opsEnd ?_
  refine X.block ?_
  have hM0 := hM1
  refine X.loopL (σ := Nat × Value) (fun s => [(0, .slice A n c), (3, s.2), (4, .int .i64 (s.1 : Int))]) (fun s w' => s.1 ≤ n ∧ Mine KB 5 (fun k => w.heap.size ≤ k) 0 0 w' s.2 (numB n ++ (l.take s.1).flatMap entB) ∧ Keep w w') (fun s => n - s.1) (0, v1) ⟨rfl, rfl, rfl, trivial⟩ ⟨by omega, (by simpa using hM0), hk1⟩ ?_
  rintro ⟨i, bv⟩ b w1 ⟨hi, hM, hk⟩ hback
  dsimp only at hi hM
  have hk0 := hk.size
  refine X.seq ?_
  refine X.seq ?_
  refine X.region ?_
  refine X.opw X.wN rfl (X.move (v := .int .i64 _) rfl) ?_
  refine X.opw X.wN rfl (X.move (v := .slice _ _ _) rfl) ?_
  refine X.opw X.wN rfl (X.lenSl Tryz.underlying22 rfl) ?_
  refine X.opP X.wN rfl rfl (X.lss rfl rfl) (fun h12 => ?_) (fun h12 => ?_)
  · obtain ⟨x, hx⟩ : ∃ x, L[i]? = some x := ⟨_, List.getElem?_eq_getElem (by omega)⟩
    obtain ⟨q, hq, eq, oq, nq, ht⟩ := hLt _ _ hx
    have hbq := entB_le (hok q (List.mem_of_getElem? hq))
    have hbt := ents_le (p := l.take i) (hok.sub fun z hz => List.mem_of_mem_take hz)
    rw [List.length_take, Nat.min_eq_left (by omega)] at hbt
    have hbn := numB_le (k := n) (by omega)
    refine X.opsEnd ?_
    refine X.condT rfl ?_
    refine X.skip ?_
    refine X.seq ?_
    refine X.block ?_
    refine X.region ?_
    refine X.opw X.wN rfl (X.move rfl) ?_
    refine X.opw X.wN rfl (X.move (v := .slice _ _ _) rfl) ?_
    refine X.opw X.wN rfl (X.move (v := .int .i64 _) rfl) ?_
    refine X.opw X.wN rfl (X.idxS (hsL.keep hk) Tryz.underlying22 Tryz.sizeOf40 rfl rfl ⟨by omega, by omega⟩) ?_
    refine X.opw X.wN rfl (X.loadSN Tryz.isAgg40 Tryz.sizeOf40 (hsL.keep hk) hx rfl (fun _ h => h.1) rfl) ?_
    refine X.opE X.wN rfl (X.callE (Rentry_c (q := q) _ (ht.keep hk) (by omega) (by rw [eq]; exact oq) eq) Tryz.call63 rfl rfl) ?_
    rintro v2 w2 ⟨hM2, hk2⟩
    have hk2' := hk2.size
    have q3 := hM2.slF KB_flat 0 (fun _ _ => Nat.zero_le _)
    obtain ⟨A3, c3, rfl, hc3, hs3⟩ := q3
    refine X.opE X.wN rfl (X.appE (K := KB) (S := fun k => w.heap.size ≤ k) KB_flat Tryz.underlying43 E5 rfl rfl (hM.keep hk2) hs3 zq9 zq26) ?_
    rintro v4 w4 ⟨hM4, hx4⟩
    have hx4' := hx4.size
    refine X.opw X.wN rfl (X.assign rfl) ?_
    refine X.opsEnd ?_
    refine X.inBlock ?_
    refine X.region ?_
    refine X.opw X.wN rfl (X.move (v := .int .i64 _) rfl) ?_
    refine X.opw X.wN rfl (X.add rfl rfl (X.w_i64 (by omega))) ?_
    refine X.opw X.wN rfl (X.assign (v := .int .i64 _) rfl) ?_
    refine X.opsEnd ?_
    refine hback (i + 1, v4) _ _ ⟨rfl, rfl, rfl, trivial⟩ ⟨by (try dsimp only); omega, by (try dsimp only); rw [flat_step entB hq, ← List.append_assoc]; exact hM4, ((hk.trans hk2).step hx4 zq26)⟩ (by (try dsimp only); omega)
  · have hin : i = n := by omega
    subst hin
    rw [List.take_of_length_le (by omega)] at hM
    have hbt := ents_le hok
    rw [hsl] at hbt
    have hbn := numB_le (k := i) (by omega)
    refine X.opsEnd ?_
    refine X.condF rfl ?_
    refine X.exit rfl ?_
    refine X.seq ?_
    refine X.region ?_
    refine X.opw X.wN rfl (X.move rfl) ?_
    have q6 := hM.slF KB_flat 0 (fun _ _ => Nat.zero_le _)
    obtain ⟨A6, c6, rfl, hc6, hs6⟩ := q6
    refine X.opE X.wN rfl (X.callE (RSeal_c _ hs6 (by first | omega | (simp only [List.length_append]; omega))) Tryz.call59 rfl rfl) ?_
    rintro v5 w5 ⟨hM5, hk5⟩
    have hk5' := hk5.size
    refine X.opw X.wN rfl (X.assign rfl) ?_
    refine X.opsEnd ?_
    refine X.ret1 Tryz.func56 Tryz.results56 rfl ?_
    rw [pageB, hsl]
    exact ⟨hM5.mono (fun k _ hk => by (try simp only [] at *); omega), (hk.trans hk5)⟩
end Go.Proofs.YtbljooblpfdbiaaGreatDoor
