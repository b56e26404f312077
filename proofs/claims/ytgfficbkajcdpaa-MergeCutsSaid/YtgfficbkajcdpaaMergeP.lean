/- The reference's Merge. -/
import Derived.Test.YtgfficbkajcdpaaMergeO
import Derived.Test.YtgfficbkajcdpaaXNum
import Derived.Test.YtgfficbkajcdpaaProg
namespace Go.Proofs.Ytgfficbkajcdpaa
open Go Go.Proofs.Ytgfficbkajcdpaa.X
set_option linter.unusedVariables false
set_option linter.unusedSimpArgs false
def LL (ls : List (List TH)) : Nat → List TH := fun j => ls.getD j []
def DL (ls : List (List TH)) (ats : List Nat) : Nat → List TH := fun j => (ls.getD j []).drop (ats.getD j 0)
theorem DL_at {ls : List (List TH)} {ats : List Nat} {j a : Nat} {l : List TH} (h1 : ls[j]? = some l) (h2 : ats[j]? = some a) : DL ls ats j = l.drop a := by
  simp [DL, h1, h2]
theorem DL_zero (ls : List (List TH)) (n : Nat) : DL ls (List.replicate n 0) = LL ls := by
  funext j
  have : (List.replicate n 0).getD j 0 = 0 := by
    rw [List.getD_eq_getElem?_getD, List.getElem?_replicate]; split <;> rfl
  rw [DL, this, List.drop_zero]; rfl
theorem DL_set {ls : List (List TH)} {ats : List Nat} {b ab : Nat} (h : ats[b]? = some ab) : DL ls (ats.set b (ab + 1)) = updL (DL ls ats) b := by
  funext j
  obtain ⟨hb, hb2⟩ := List.getElem?_eq_some_iff.1 h
  by_cases e : j = b
  · subst e
    simp [DL, updL, hb, hb2]
  · simp [DL, updL, e, List.getElem?_set, show ¬ b = j from fun h => e h.symm]
def bI : PK → Int
  | none => -1
  | some (i, _) => (i : Int)
theorem bI_lt {o : PK} (h : bI o < 0) : o = none := by
  cases o with
  | none => rfl
  | some q => obtain ⟨i, x⟩ := q; simp only [bI] at h; omega
theorem bI_ge {o : PK} (h : ¬ bI o < 0) : ∃ i x, o = some (i, x) := by
  cases o with
  | none => exact absurd (by decide) h
  | some q => exact ⟨q.1, q.2, rfl⟩
theorem mine_at {e b : Nat} {A : Option Addr} {n c : Nat} {xs : List Nat} {w : World} (h : Mine KNt e (fun k => k = b) 0 0 w (.slice A n c) xs) : Sl KNt b (b + 1) w A n xs := by
  obtain ⟨A', c', e1, _, hs⟩ := (h.flat KNt_flat (lo' := b) (hi' := b + 1)).sl (fun k hk hs => by have hs : k = b := hs; omega)
  injection e1 with e1 e2 e3
  rw [e1, e2]; exact hs
theorem head_drop {l : List TH} {a : Nat} {y : TH} {t : List TH} (h : l.drop a = y :: t) : l[a]? = some y := by
  have := congrArg (fun l => l[0]?) h
  simpa using this
theorem INF : IntInfo Try.prog 3 := IntInfo.of (by kernel_rfl)
-- f25 "pedigree/pedigreeref09.Merge" params [22] results [24] -> [(ResultVar.tmp 2)] nfree 0 ntmps 75 names [
set_option maxHeartbeats 4000000 in
set_option maxRecDepth 100000 in
theorem RMerge_c {lo hi lo2 hi2 : Nat} {A : Option Addr} {n c : Nat} {vs : List Value} {ls : List (List TH)} (w : World) (hs : Sl KR1 lo hi w A n vs) (hr : SlRows KTh lo2 hi2 w vs ls) (hhi : hi ≤ w.heap.size) (hhi2 : hi2 ≤ w.heap.size) (hn : n ≤ 1000) (htl : totL (LL ls) n ≤ 1000000) : Ret Try.prog 25 #[.slice A n c] w fun r w' => Fresh KTh 29 w w' r (mgC n (LL ls)) := by
  have hl := hs.len
  have hrl := hr.len
  refine X.enter Try.func25 rfl Try.ntmps25 rfl ?_
  refine X.seq ?_
  refine X.region ?_
  refine X.opw X.wN rfl (X.assign rfl) ?_
  refine X.opsEnd ?_
  refine X.seq ?_
  refine X.region ?_
  refine X.opw X.wN rfl (X.move (v := .slice _ _ _) rfl) ?_
  refine X.opw X.wN rfl (X.lenSl Try.underlying22 rfl) ?_
  refine X.opE X.wN rfl (X.mkN (n := n) (S := fun k => k = w.heap.size) Try.underlying54 INF rfl rfl (by omega) rfl) ?_
  rintro _ w1 ⟨rfl, hs1, hM1, hk1, hz1⟩
  refine X.opw X.wN rfl (X.assign (v := .slice _ _ _) rfl) ?_
  refine X.opsEnd ?_
  refine X.seq ?_
  refine X.region ?_
  refine X.opw X.wN rfl (X.assign rfl) ?_
  refine X.opsEnd ?_
  refine X.block ?_
  -- LOOP live: 0=l, 3=heads, 4=out*
  refine X.loopL (σ := List Nat × Value × List TH) (fun s => [(0, .slice A n c), (3, .slice (some ⟨w.heap.size, 0, none⟩) n n), (4, s.2.1)]) (fun s w' => s.1.length = n ∧ s.2.2.length + totL (DL ls s.1) n = totL (LL ls) n ∧ s.2.2 ++ mgC n (DL ls s.1) = mgC n (LL ls) ∧ Mine KNt 3 (fun k => k = w.heap.size) 0 0 w' (.slice (some ⟨w.heap.size, 0, none⟩) n n) s.1 ∧ Mine KTh 29 (fun k => w.heap.size < k) 0 0 w' s.2.1 s.2.2 ∧ Keep w w' ∧ w.heap.size < w'.heap.size) (fun s => totL (DL ls s.1) n) (List.replicate n 0, _, []) ⟨rfl, rfl, rfl, trivial⟩ ⟨List.length_replicate, by rw [DL_zero]; simp, by rw [DL_zero]; rfl, hM1, Mine.nil _ _ _ _ _ _, hk1, by omega⟩ ?_
  rintro ⟨ats, v, out⟩ b0 wl ⟨hal, htot, ho, hMa, hM0, hk, hwl⟩ hback
  dsimp only
  simp only at hal htot ho hMa hM0
  have hk' := hk.size
  have hsa := mine_at hMa
  refine X.block ?_
  refine X.seq ?_
  refine X.region ?_
  refine X.opw X.wN rfl (X.assign rfl) ?_
  refine X.opsEnd ?_
  refine X.seq ?_
  refine X.seq ?_
  refine X.region ?_
  refine X.opw X.wN rfl (X.assign rfl) ?_
  refine X.opsEnd ?_
  refine X.block ?_
  -- LOOP live: 0=l, 3=heads, 4=out, 5=best*, 6=i*
  refine X.loopL (σ := Nat) (fun s => [(0, .slice A n c), (3, .slice (some ⟨w.heap.size, 0, none⟩) n n), (4, v), (5, .int .i64 (bI (pk (DL ls ats) s))), (6, .int .i64 (s : Int))]) (fun s w' => s ≤ n ∧ Keep wl w' ∧ Keep w w') (fun s => n - s) 0 ⟨rfl, rfl, rfl, rfl, rfl, trivial⟩ ⟨Nat.zero_le _, Keep.refl _, hk⟩ ?_
  rintro i b2 wm ⟨hi, hwm, hkm⟩ hback2
  have hkm' := hkm.size
  have hwm' := hwm.size
  refine X.seq ?_
  refine X.seq ?_
  refine X.region ?_
  refine X.opw X.wN rfl (X.move (v := .int .i64 _) rfl) ?_
  refine X.opw X.wN rfl (X.move (v := .slice _ _ _) rfl) ?_
  refine X.opw X.wN rfl (X.lenSl Try.underlying22 rfl) ?_
  refine X.opP X.wN rfl rfl (X.lss rfl rfl) (fun h13 => ?_) (fun h13 => ?_)
  · obtain ⟨ai, hai⟩ : ∃ ai, ats[i]? = some ai := ⟨ats[i]'(by omega), List.getElem?_eq_getElem (by omega)⟩
    obtain ⟨vi, hvi⟩ : ∃ vi, vs[i]? = some vi := ⟨vs[i]'(by omega), List.getElem?_eq_getElem (by omega)⟩
    obtain ⟨li, Ai, ni, ci, hli, rfl, hnci, hsi⟩ := hr.get hvi
    have hDi := DL_at hli hai
    have hlil := hsi.len
    have hlib := hsi.bound
    refine X.opsEnd ?_
    refine X.condT rfl ?_
    refine X.skip ?_
    refine X.seq ?_
    refine X.block ?_
    refine X.seq ?_
    refine X.seq ?_
    refine X.regionD (fun k => w.heap.size < k) 10 (by kernel_rfl) (by kernel_rfl) (fun w2 hk2 hz2 => ?_)
    refine X.dTake 0 rfl (by kernel_rfl) (by kernel_rfl) (by kernel_rfl) (X.dwN rfl) (fun w' hk' => X.move (v := .slice _ _ _) rfl) ?_
    refine X.dTake 1 rfl (by kernel_rfl) (by kernel_rfl) (by kernel_rfl) (X.dwN rfl) (fun w' hk' => X.move (v := .int .i64 _) rfl) ?_
    refine X.dTake 2 rfl (by kernel_rfl) (by kernel_rfl) (by kernel_rfl) (X.dwN rfl) (fun w' hk' => X.idxS (((hsa.keep hwm).keep hk2).ext hk' (by intros; (try simp only []); omega)) Try.underlying54 Try.sizeOf3 rfl rfl ⟨by omega, by omega⟩) ?_
    refine X.dTake 3 rfl (by kernel_rfl) (by kernel_rfl) (by kernel_rfl) (X.dwN rfl) (fun w' hk' => X.loadS Try.isAgg3 (((hsa.keep hwm).keep hk2).ext hk' (by intros; (try simp only []); omega)) hai rfl (fun _ h => by rw [h.1]; rfl)) ?_
    refine X.dTake 4 rfl (by kernel_rfl) (by kernel_rfl) (by kernel_rfl) (X.dwN rfl) (fun w' hk' => X.move (v := .slice _ _ _) rfl) ?_
    refine X.dTake 5 rfl (by kernel_rfl) (by kernel_rfl) (by kernel_rfl) (X.dwN rfl) (fun w' hk' => X.move (v := .int .i64 _) rfl) ?_
    refine X.dTake 6 rfl (by kernel_rfl) (by kernel_rfl) (by kernel_rfl) (X.dwN rfl) (fun w' hk' => X.idxS (hs.keep ((hkm.trans hk2).step hk' (by intros; (try simp only [] at *); omega))) Try.underlying22 Try.sizeOf24 rfl rfl ⟨by omega, by omega⟩) ?_
    refine X.dTake 7 rfl (by kernel_rfl) (by kernel_rfl) (by kernel_rfl) (X.dwN rfl) (fun w' hk' => X.loadS Try.isAgg24 (hs.keep ((hkm.trans hk2).step hk' (by intros; (try simp only [] at *); omega))) hvi rfl (fun _ h => by rw [h.1]; rfl)) ?_
    refine X.dTake 8 rfl (by kernel_rfl) (by kernel_rfl) (by kernel_rfl) (X.dwN rfl) (fun w' hk' => X.lenSl Try.underlying24 rfl) ?_
    refine X.dTake 9 rfl (by kernel_rfl) (by kernel_rfl) (by kernel_rfl) (X.dwN rfl) (fun w' hk' => X.geq rfl rfl) ?_
    refine X.dEnd (by kernel_rfl) ?_
    refine X.condB rfl (fun hc => ?_) (fun hc => ?_)
    · have hDn : DL ls ats i = [] := by rw [hDi, List.drop_of_length_le (by simp at hc; omega)]
      refine X.exit rfl ?_
      refine X.region ?_
      refine X.opw X.wN rfl (X.move (v := .int .i64 _) rfl) ?_
      refine X.opw X.wN rfl (X.add rfl rfl (X.w_i64 (by omega))) ?_
      refine X.opw X.wN rfl (X.assign (v := .int .i64 _) rfl) ?_
      refine X.opsEnd ?_
      have hpk := pk_nil hDn
      refine hback2 (i + 1) _ _ ⟨(by first | rfl | (rw [hpk]; rfl)), (by first | rfl | (rw [hpk]; rfl)), (by first | rfl | (rw [hpk]; rfl)), (by first | rfl | (rw [hpk]; rfl)), (by first | rfl | (rw [hpk]; rfl)), trivial⟩ ⟨by omega, (hwm.trans hk2), (hkm.trans hk2)⟩ (by omega)
    · obtain ⟨x, hx⟩ := get2 ai hlil (by simp at hc; omega)
      have hDx : DL ls ats i = x :: li.drop (ai + 1) := by rw [hDi, drop_at hx]
      have hailt := (List.getElem?_eq_some_iff.1 hx).1
      refine X.skip ?_
      refine X.seq ?_
      refine X.regionD (fun k => w.heap.size < k) 26 (by kernel_rfl) (by kernel_rfl) (fun w3 hk3 hz3 => ?_)
      refine X.dTake 0 rfl (by kernel_rfl) (by kernel_rfl) (by kernel_rfl) (X.dwN rfl) (fun w' hk' => X.move (v := .int .i64 _) rfl) ?_
      refine X.dTake 1 rfl (by kernel_rfl) (by kernel_rfl) (by kernel_rfl) (X.dwN rfl) (fun w' hk' => X.lss rfl rfl) ?_
      refine X.dTake 2 rfl (by kernel_rfl) (by kernel_rfl) (by kernel_rfl) (X.dwN rfl) (fun w' hk' => X.move (v := .bool _) rfl) ?_
      refine X.dFork 28 rfl (fun h28 => ?_) (fun h28 => ?_)
      · have hob : pk (DL ls ats) i = none := bI_lt (of_decide_eq_true h28)
        refine X.dTakeS 3 rfl (by kernel_rfl) (by kernel_rfl) (by kernel_rfl) rfl rfl rfl rfl ?_
        refine X.dTakeS 4 rfl (by kernel_rfl) (by kernel_rfl) (by kernel_rfl) rfl rfl rfl rfl ?_
        refine X.dTakeS 5 rfl (by kernel_rfl) (by kernel_rfl) (by kernel_rfl) rfl rfl rfl rfl ?_
        refine X.dTakeS 6 rfl (by kernel_rfl) (by kernel_rfl) (by kernel_rfl) rfl rfl rfl rfl ?_
        refine X.dTakeS 7 rfl (by kernel_rfl) (by kernel_rfl) (by kernel_rfl) rfl rfl rfl rfl ?_
        refine X.dTakeS 8 rfl (by kernel_rfl) (by kernel_rfl) (by kernel_rfl) rfl rfl rfl rfl ?_
        refine X.dTakeS 9 rfl (by kernel_rfl) (by kernel_rfl) (by kernel_rfl) rfl rfl rfl rfl ?_
        refine X.dTakeS 10 rfl (by kernel_rfl) (by kernel_rfl) (by kernel_rfl) rfl rfl rfl rfl ?_
        refine X.dTakeS 11 rfl (by kernel_rfl) (by kernel_rfl) (by kernel_rfl) rfl rfl rfl rfl ?_
        refine X.dTakeS 12 rfl (by kernel_rfl) (by kernel_rfl) (by kernel_rfl) rfl rfl rfl rfl ?_
        refine X.dTakeS 13 rfl (by kernel_rfl) (by kernel_rfl) (by kernel_rfl) rfl rfl rfl rfl ?_
        refine X.dTakeS 14 rfl (by kernel_rfl) (by kernel_rfl) (by kernel_rfl) rfl rfl rfl rfl ?_
        refine X.dTakeS 15 rfl (by kernel_rfl) (by kernel_rfl) (by kernel_rfl) rfl rfl rfl rfl ?_
        refine X.dTakeS 16 rfl (by kernel_rfl) (by kernel_rfl) (by kernel_rfl) rfl rfl rfl rfl ?_
        refine X.dTakeS 17 rfl (by kernel_rfl) (by kernel_rfl) (by kernel_rfl) rfl rfl rfl rfl ?_
        refine X.dSkip (i := 18) (by kernel_rfl) rfl rfl rfl rfl rfl ?_
        refine X.dSkip (i := 19) (by kernel_rfl) rfl rfl rfl rfl rfl ?_
        refine X.dSkip (i := 20) (by kernel_rfl) rfl rfl rfl rfl rfl ?_
        refine X.dSkip (i := 21) (by kernel_rfl) rfl rfl rfl rfl rfl ?_
        refine X.dSkip (i := 22) (by kernel_rfl) rfl rfl rfl rfl rfl ?_
        refine X.dSkip (i := 23) (by kernel_rfl) rfl rfl rfl rfl rfl ?_
        refine X.dSkip (i := 24) (by kernel_rfl) rfl rfl rfl rfl rfl ?_
        refine X.dTake 25 rfl (by kernel_rfl) (by kernel_rfl) (by kernel_rfl) (X.dwN rfl) (fun w' hk' => X.pickT (v := .bool true) rfl rfl) ?_
        refine X.dEnd (by kernel_rfl) ?_
        refine X.condT rfl ?_
        refine X.region ?_
        refine X.opw X.wN rfl (X.move (v := .int .i64 _) rfl) ?_
        refine X.opw X.wN rfl (X.assign (v := .int .i64 _) rfl) ?_
        refine X.opsEnd ?_
        refine X.inBlock ?_
        refine X.region ?_
        refine X.opw X.wN rfl (X.move (v := .int .i64 _) rfl) ?_
        refine X.opw X.wN rfl (X.add rfl rfl (X.w_i64 (by omega))) ?_
        refine X.opw X.wN rfl (X.assign (v := .int .i64 _) rfl) ?_
        refine X.opsEnd ?_
        have hpk := pk_new hDx (.inl hob)
        refine hback2 (i + 1) _ _ ⟨(by first | rfl | (rw [hpk]; rfl)), (by first | rfl | (rw [hpk]; rfl)), (by first | rfl | (rw [hpk]; rfl)), (by first | rfl | (rw [hpk]; rfl)), (by first | rfl | (rw [hpk]; rfl)), trivial⟩ ⟨by omega, ((hwm.trans hk2).trans hk3), ((hkm.trans hk2).trans hk3)⟩ (by omega)
      · obtain ⟨b, y, hob⟩ := bI_ge (of_decide_eq_false h28)
        obtain ⟨lb0, hbn, tb, hDb0⟩ : ∃ lb0 : Nat, b < n ∧ ∃ tb, DL ls ats b = y :: tb := by
          obtain ⟨q1, q2, q3⟩ := pk_some hob
          exact ⟨0, by omega, q2, q3⟩
        obtain ⟨ab, hab⟩ : ∃ ab, ats[b]? = some ab := ⟨ats[b]'(by omega), List.getElem?_eq_getElem (by omega)⟩
        obtain ⟨vb, hvb⟩ : ∃ vb, vs[b]? = some vb := ⟨vs[b]'(by omega), List.getElem?_eq_getElem (by omega)⟩
        obtain ⟨lb, Ab, nb, cb, hlb, rfl, hncb, hsb⟩ := hr.get hvb
        have hDb := DL_at hlb hab
        rw [hDb0] at hDb
        have hy := head_drop hDb.symm
        have hylt := (List.getElem?_eq_some_iff.1 hy).1
        have hlbl := hsb.len
        have hlbb := hsb.bound
        rw [hob, show bI (some (b, y)) = (b : Int) from rfl]
        refine X.dTake 3 rfl (by kernel_rfl) (by kernel_rfl) (by kernel_rfl) (X.dwG rfl rfl rfl) (fun w' hk' => X.move (v := .slice _ _ _) rfl) ?_
        refine X.dTake 4 rfl (by kernel_rfl) (by kernel_rfl) (by kernel_rfl) (X.dwG rfl rfl rfl) (fun w' hk' => X.move (v := .int .i64 _) rfl) ?_
        refine X.dTake 5 rfl (by kernel_rfl) (by kernel_rfl) (by kernel_rfl) (X.dwG rfl rfl rfl) (fun w' hk' => X.idxS (hs.keep (((hkm.trans hk2).trans hk3).step hk' (by intros; (try simp only [] at *); omega))) Try.underlying22 Try.sizeOf24 rfl rfl ⟨by omega, by omega⟩) ?_
        refine X.dTake 6 rfl (by kernel_rfl) (by kernel_rfl) (by kernel_rfl) (X.dwG rfl rfl rfl) (fun w' hk' => X.loadS Try.isAgg24 (hs.keep (((hkm.trans hk2).trans hk3).step hk' (by intros; (try simp only [] at *); omega))) hvi rfl (fun _ h => by rw [h.1]; rfl)) ?_
        refine X.dTake 7 rfl (by kernel_rfl) (by kernel_rfl) (by kernel_rfl) (X.dwG rfl rfl rfl) (fun w' hk' => X.move (v := .slice _ _ _) rfl) ?_
        refine X.dTake 8 rfl (by kernel_rfl) (by kernel_rfl) (by kernel_rfl) (X.dwG rfl rfl rfl) (fun w' hk' => X.move (v := .int .i64 _) rfl) ?_
        refine X.dTake 9 rfl (by kernel_rfl) (by kernel_rfl) (by kernel_rfl) (X.dwG rfl rfl rfl) (fun w' hk' => X.idxS (((hsa.keep hwm).keep (hk2.trans hk3)).ext hk' (by intros; (try simp only []); omega)) Try.underlying54 Try.sizeOf3 rfl rfl ⟨by omega, by omega⟩) ?_
        refine X.dTake 10 rfl (by kernel_rfl) (by kernel_rfl) (by kernel_rfl) (X.dwG rfl rfl rfl) (fun w' hk' => X.loadS Try.isAgg3 (((hsa.keep hwm).keep (hk2.trans hk3)).ext hk' (by intros; (try simp only []); omega)) hai rfl (fun _ h => by rw [h.1]; rfl)) ?_
        refine X.dTake 11 rfl (by kernel_rfl) (by kernel_rfl) (by kernel_rfl) (X.dwG rfl rfl rfl) (fun w' hk' => X.idxS (hsi.keep (((hkm.trans hk2).trans hk3).step hk' (by intros; (try simp only [] at *); omega))) Try.underlying24 Try.sizeOf29 rfl rfl ⟨by omega, by omega⟩) ?_
        refine X.dTake 12 rfl (by kernel_rfl) (by kernel_rfl) (by kernel_rfl) (X.dwG rfl rfl rfl) (fun w' hk' => X.loadSN Try.isAgg29 Try.sizeOf29 (hsi.keep (((hkm.trans hk2).trans hk3).step hk' (by intros; (try simp only [] at *); omega))) hx rfl (fun _ h => h.1) rfl) ?_
        refine X.dTake 13 rfl (by kernel_rfl) (by kernel_rfl) (by kernel_rfl) (X.dwG rfl rfl rfl) (fun w' hk' => X.move (v := .slice _ _ _) rfl) ?_
        refine X.dTake 14 rfl (by kernel_rfl) (by kernel_rfl) (by kernel_rfl) (X.dwG rfl rfl rfl) (fun w' hk' => X.move (v := .int .i64 _) rfl) ?_
        refine X.dTake 15 rfl (by kernel_rfl) (by kernel_rfl) (by kernel_rfl) (X.dwG rfl rfl rfl) (fun w' hk' => X.idxS (hs.keep (((hkm.trans hk2).trans hk3).step hk' (by intros; (try simp only [] at *); omega))) Try.underlying22 Try.sizeOf24 rfl rfl ⟨by omega, by omega⟩) ?_
        refine X.dTake 16 rfl (by kernel_rfl) (by kernel_rfl) (by kernel_rfl) (X.dwG rfl rfl rfl) (fun w' hk' => X.loadS Try.isAgg24 (hs.keep (((hkm.trans hk2).trans hk3).step hk' (by intros; (try simp only [] at *); omega))) hvb rfl (fun _ h => by rw [h.1]; rfl)) ?_
        refine X.dTake 17 rfl (by kernel_rfl) (by kernel_rfl) (by kernel_rfl) (X.dwG rfl rfl rfl) (fun w' hk' => X.move (v := .slice _ _ _) rfl) ?_
        refine X.dTake 18 rfl (by kernel_rfl) (by kernel_rfl) (by kernel_rfl) (X.dwG rfl rfl rfl) (fun w' hk' => X.move (v := .int .i64 _) rfl) ?_
        refine X.dTake 19 rfl (by kernel_rfl) (by kernel_rfl) (by kernel_rfl) (X.dwG rfl rfl rfl) (fun w' hk' => X.idxS (((hsa.keep hwm).keep (hk2.trans hk3)).ext hk' (by intros; (try simp only []); omega)) Try.underlying54 Try.sizeOf3 rfl rfl ⟨by omega, by omega⟩) ?_
        refine X.dTake 20 rfl (by kernel_rfl) (by kernel_rfl) (by kernel_rfl) (X.dwG rfl rfl rfl) (fun w' hk' => X.loadS Try.isAgg3 (((hsa.keep hwm).keep (hk2.trans hk3)).ext hk' (by intros; (try simp only []); omega)) hab rfl (fun _ h => by rw [h.1]; rfl)) ?_
        refine X.dTake 21 rfl (by kernel_rfl) (by kernel_rfl) (by kernel_rfl) (X.dwG rfl rfl rfl) (fun w' hk' => X.idxS (hsb.keep (((hkm.trans hk2).trans hk3).step hk' (by intros; (try simp only [] at *); omega))) Try.underlying24 Try.sizeOf29 rfl rfl ⟨by omega, by omega⟩) ?_
        refine X.dTake 22 rfl (by kernel_rfl) (by kernel_rfl) (by kernel_rfl) (X.dwG rfl rfl rfl) (fun w' hk' => X.loadSN Try.isAgg29 Try.sizeOf29 (hsb.keep (((hkm.trans hk2).trans hk3).step hk' (by intros; (try simp only [] at *); omega))) hy rfl (fun _ h => h.1) rfl) ?_
        refine X.dE (i := 23) (by kernel_rfl) rfl (X.dwG rfl rfl rfl) (X.callE (Compare_c x y _) Try.call17 rfl rfl) (by rintro _ w4 ⟨nc4, rfl, hlt4, hgt4, hk4⟩ _; exact hk4.mono (fun _ _ h => h.elim)) ?_
        rintro _ w4 ⟨nc4, rfl, hlt4, hgt4, hk4⟩
        have hk4' := hk4.size
        refine X.dTake 24 rfl (by kernel_rfl) (by kernel_rfl) (by kernel_rfl) (X.dwG rfl rfl rfl) (fun w' hk' => X.lss rfl rfl) ?_
        refine X.dTake 25 rfl (by kernel_rfl) (by kernel_rfl) (by kernel_rfl) (X.dwN rfl) (fun w' hk' => X.pickF (v := .bool _) rfl rfl) ?_
        refine X.dEnd (by kernel_rfl) ?_
        refine X.condB rfl (fun hc => ?_) (fun hc => ?_)
        · have hxy : x.1 < (bestX (pk (DL ls ats) i)).1 := by rw [hob]; exact hlt4.1 (by simpa using hc)
          refine X.region ?_
          refine X.opw X.wN rfl (X.move (v := .int .i64 _) rfl) ?_
          refine X.opw X.wN rfl (X.assign (v := .int .i64 _) rfl) ?_
          refine X.opsEnd ?_
          refine X.inBlock ?_
          refine X.region ?_
          refine X.opw X.wN rfl (X.move (v := .int .i64 _) rfl) ?_
          refine X.opw X.wN rfl (X.add rfl rfl (X.w_i64 (by omega))) ?_
          refine X.opw X.wN rfl (X.assign (v := .int .i64 _) rfl) ?_
          refine X.opsEnd ?_
          have hpk := pk_new hDx (.inr hxy)
          refine hback2 (i + 1) _ _ ⟨(by first | rfl | (rw [hpk]; rfl)), (by first | rfl | (rw [hpk]; rfl)), (by first | rfl | (rw [hpk]; rfl)), (by first | rfl | (rw [hpk]; rfl)), (by first | rfl | (rw [hpk]; rfl)), trivial⟩ ⟨by omega, (((hwm.trans hk2).trans hk3).trans hk4), (((hkm.trans hk2).trans hk3).trans hk4)⟩ (by omega)
        · have hxy : ¬ x.1 < (bestX (pk (DL ls ats) i)).1 := by rw [hob]; intro h; have := hlt4.2 h; simp at hc; omega
          refine X.skip ?_
          refine X.inBlock ?_
          refine X.region ?_
          refine X.opw X.wN rfl (X.move (v := .int .i64 _) rfl) ?_
          refine X.opw X.wN rfl (X.add rfl rfl (X.w_i64 (by omega))) ?_
          refine X.opw X.wN rfl (X.assign (v := .int .i64 _) rfl) ?_
          refine X.opsEnd ?_
          have hpk := (pk_old hDx (by rw [hob]; simp) hxy).trans hob
          refine hback2 (i + 1) _ _ ⟨(by first | rfl | (rw [hpk]; rfl)), (by first | rfl | (rw [hpk]; rfl)), (by first | rfl | (rw [hpk]; rfl)), (by first | rfl | (rw [hpk]; rfl)), (by first | rfl | (rw [hpk]; rfl)), trivial⟩ ⟨by omega, (((hwm.trans hk2).trans hk3).trans hk4), (((hkm.trans hk2).trans hk3).trans hk4)⟩ (by omega)
  · have hin : i = n := by omega
    refine X.opsEnd ?_
    refine X.condF rfl ?_
    refine X.exit rfl ?_
    refine X.seq ?_
    refine X.seq ?_
    refine X.region ?_
    refine X.opw X.wN rfl (X.move (v := .int .i64 _) rfl) ?_
    refine X.opP X.wN rfl rfl (X.lss rfl rfl) (fun h54 => ?_) (fun h54 => ?_)
    · refine X.opsEnd ?_
      refine X.condT rfl ?_
      refine X.seq ?_
      refine X.region ?_
      refine X.opw X.wN rfl (X.move rfl) ?_
      refine X.opw X.wN rfl (X.assign rfl) ?_
      refine X.opsEnd ?_
      refine X.ret1 Try.func25 Try.results25 rfl ?_
      have e := bI_lt h54
      rw [hin] at e
      rw [mgC_none e, List.append_nil] at ho
      rw [ho] at hM0
      exact ⟨((hM0.keep hwm)).mono (fun k _ h => by (try simp only [] at *); omega), hkm⟩
    · obtain ⟨b, y, hob⟩ := bI_ge h54
      rw [hin] at hob
      rw [hin]
      obtain ⟨lb0, hbn, tb, hDb0⟩ : ∃ lb0 : Nat, b < n ∧ ∃ tb, DL ls ats b = y :: tb := by
        obtain ⟨q1, q2, q3⟩ := pk_some hob
        exact ⟨0, by omega, q2, q3⟩
      obtain ⟨ab, hab⟩ : ∃ ab, ats[b]? = some ab := ⟨ats[b]'(by omega), List.getElem?_eq_getElem (by omega)⟩
      obtain ⟨vb, hvb⟩ : ∃ vb, vs[b]? = some vb := ⟨vs[b]'(by omega), List.getElem?_eq_getElem (by omega)⟩
      obtain ⟨lb, Ab, nb, cb, hlb, rfl, hncb, hsb⟩ := hr.get hvb
      have hDb := DL_at hlb hab
      rw [hDb0] at hDb
      have hy := head_drop hDb.symm
      have hylt := (List.getElem?_eq_some_iff.1 hy).1
      have hlbl := hsb.len
      have hlbb := hsb.bound
      rw [hob, show bI (some (b, y)) = (b : Int) from rfl]
      refine X.opsEnd ?_
      refine X.condF rfl ?_
      refine X.skip ?_
      refine X.seq ?_
      refine X.regionD (fun k => w.heap.size < k) 13 (by kernel_rfl) (by kernel_rfl) (fun w5 hk5 hz5 => ?_)
      refine X.dTake 0 rfl (by kernel_rfl) (by kernel_rfl) (by kernel_rfl) (X.dwN rfl) (fun w' hk' => X.move rfl) ?_
      refine X.dTake 1 rfl (by kernel_rfl) (by kernel_rfl) (by kernel_rfl) (X.dwN rfl) (fun w' hk' => X.move (v := .slice _ _ _) rfl) ?_
      refine X.dTake 2 rfl (by kernel_rfl) (by kernel_rfl) (by kernel_rfl) (X.dwN rfl) (fun w' hk' => X.move (v := .int .i64 _) rfl) ?_
      refine X.dTake 3 rfl (by kernel_rfl) (by kernel_rfl) (by kernel_rfl) (X.dwN rfl) (fun w' hk' => X.idxS (hs.keep ((hkm.trans hk5).step hk' (by intros; (try simp only [] at *); omega))) Try.underlying22 Try.sizeOf24 rfl rfl ⟨by omega, by omega⟩) ?_
      refine X.dTake 4 rfl (by kernel_rfl) (by kernel_rfl) (by kernel_rfl) (X.dwN rfl) (fun w' hk' => X.loadS Try.isAgg24 (hs.keep ((hkm.trans hk5).step hk' (by intros; (try simp only [] at *); omega))) hvb rfl (fun _ h => by rw [h.1]; rfl)) ?_
      refine X.dTake 5 rfl (by kernel_rfl) (by kernel_rfl) (by kernel_rfl) (X.dwN rfl) (fun w' hk' => X.move (v := .slice _ _ _) rfl) ?_
      refine X.dTake 6 rfl (by kernel_rfl) (by kernel_rfl) (by kernel_rfl) (X.dwN rfl) (fun w' hk' => X.move (v := .int .i64 _) rfl) ?_
      refine X.dTake 7 rfl (by kernel_rfl) (by kernel_rfl) (by kernel_rfl) (X.dwN rfl) (fun w' hk' => X.idxS (((hsa.keep hwm).keep hk5).ext hk' (by intros; (try simp only []); omega)) Try.underlying54 Try.sizeOf3 rfl rfl ⟨by omega, by omega⟩) ?_
      refine X.dTake 8 rfl (by kernel_rfl) (by kernel_rfl) (by kernel_rfl) (X.dwN rfl) (fun w' hk' => X.loadS Try.isAgg3 (((hsa.keep hwm).keep hk5).ext hk' (by intros; (try simp only []); omega)) hab rfl (fun _ h => by rw [h.1]; rfl)) ?_
      refine X.dTake 9 rfl (by kernel_rfl) (by kernel_rfl) (by kernel_rfl) (X.dwN rfl) (fun w' hk' => X.idxS (hsb.keep ((hkm.trans hk5).step hk' (by intros; (try simp only [] at *); omega))) Try.underlying24 Try.sizeOf29 rfl rfl ⟨by omega, by omega⟩) ?_
      refine X.dTake 10 rfl (by kernel_rfl) (by kernel_rfl) (by kernel_rfl) (X.dwN rfl) (fun w' hk' => X.loadSN Try.isAgg29 Try.sizeOf29 (hsb.keep ((hkm.trans hk5).step hk' (by intros; (try simp only [] at *); omega))) hy rfl (fun _ h => h.1) rfl) ?_
      refine X.dE (i := 11) (by kernel_rfl) rfl (X.dwN rfl) (X.litKF KTh_flat (K := KTh) (xs := [Operand.tmp 66]) (vs := [evT y]) (ys := [y]) Try.underlying24 Try.sizeOf29 Try.zeroValue29 rfl rfl rfl rfl rfl (repsT y)) (by rintro _ w6 ⟨rfl, hs6, hB6, hk6, hz6⟩ _; exact hk6.mono (fun _ _ h => h.elim)) ?_
      rintro _ w6 ⟨rfl, hs6, hB6, hk6, hz6⟩
      refine X.dE (i := 12) (by kernel_rfl) rfl (X.dwN rfl) (X.appE (K := KTh) (S := fun k => w.heap.size < k) KTh_flat Try.underlying24 ETh rfl rfl ((hM0.keep hwm).keep (hk5.trans hk6)) hs6 (by (try simp only [List.length_append, List.length_cons, List.length_nil, List.length_take, List.length_drop, List.length_map, List.length_range]); omega) (by intros; (try simp only [] at *); omega)) (by rintro v7 w7 ⟨hM7, hx7⟩ _; exact hx7.mono (fun k _ h => by (try simp only [] at *); omega)) ?_
      rintro v7 w7 ⟨hM7, hx7⟩
      have hx7' := hx7.size
      refine X.dStep (i := 13) (by kernel_rfl) rfl (X.dwN rfl) (X.assign rfl) (fun h => absurd h (by decide)) ?_
      refine X.dEnd (by kernel_rfl) ?_
      refine X.region ?_
      refine X.opw X.wN rfl (X.move (v := .slice _ _ _) rfl) ?_
      refine X.opw X.wN rfl (X.move (v := .int .i64 _) rfl) ?_
      refine X.opw X.wN rfl (X.idxS (((hsa.keep hwm).keep (hk5.trans hk6)).ext hx7 (by intros; (try simp only []); omega)) Try.underlying54 Try.sizeOf3 rfl rfl ⟨by omega, by omega⟩) ?_
      refine X.opw X.wN rfl (X.loadS Try.isAgg3 (((hsa.keep hwm).keep (hk5.trans hk6)).ext hx7 (by intros; (try simp only []); omega)) hab rfl (fun _ h => by rw [h.1]; rfl)) ?_
      refine X.opw X.wN rfl (X.add (c := ((ab + 1 : Nat) : Int)) rfl rfl (by rw [X.w_i64 (by omega)]; omega)) ?_
      refine X.opw X.wN rfl (X.idxS (((hsa.keep hwm).keep (hk5.trans hk6)).ext hx7 (by intros; (try simp only []); omega)) Try.underlying54 Try.sizeOf3 rfl rfl ⟨by omega, by omega⟩) ?_
      refine X.opE X.wN rfl (X.storeMN (j := b) (y := ab + 1) Try.sizeOf3 (((hMa.keep hwm).keep (hk5.trans hk6)).ext hx7 (by intros; (try simp only []); omega) (by intros; (try simp only []); omega)) (by omega) rfl rfl) ?_
      rintro _ w8 ⟨hM8, hx8, hz8⟩
      refine X.opsEnd ?_
      refine X.inBlock ?_
      have htu := totL_upd hDb0 n
      rw [if_pos hbn] at htu
      have hset := DL_set (ls := ls) hab
      refine hback (ats.set b (ab + 1), _, out ++ [y]) _ _ ⟨rfl, rfl, rfl, trivial⟩ ⟨by dsimp only; rw [List.length_set]; exact hal, by dsimp only; rw [hset, List.length_append, List.length_singleton]; omega, by dsimp only; rw [hset, ← ho, mgC_some hob]; simp, hM8, (hM7.ext hx8 (by intros; (try simp only []); omega) (by intros; (try simp only []); omega)), ((((hkm.trans hk5).trans hk6).step hx7 (by intros; (try simp only [] at *); omega)).step hx8 (by intros; (try simp only [] at *); omega)), by omega⟩ (by dsimp only; rw [hset]; omega)
end Go.Proofs.Ytgfficbkajcdpaa
