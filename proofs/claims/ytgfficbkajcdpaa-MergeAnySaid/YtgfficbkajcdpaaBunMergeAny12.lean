/- Texts that the proof of MergeAny stands on, part 12. -/
import Derived.Test.YtgfficbkajcdpaaProg
import Derived.Test.YtgfficbkajcdpaaBunMergeAny11

namespace Go.Proofs.Ytgfficbkajcdpaa
open Go Go.Proofs.Ytgfficbkajcdpaa.X
set_option linter.unusedVariables false
set_option linter.unusedSimpArgs false
def DLC (ls : List (List CT)) (ats : List Nat) : Nat → List CT := fun j => (ls.getD j []).drop (ats.getD j 0)
theorem DLC_at {ls : List (List CT)} {ats : List Nat} {j a : Nat} {l : List CT} (h1 : ls[j]? = some l) (h2 : ats[j]? = some a) : DLC ls ats j = l.drop a := by
  simp [DLC, h1, h2]
theorem DLC_zero (ls : List (List CT)) (n : Nat) : DLC ls (List.replicate n 0) = LLC ls := by
  funext j
  have : (List.replicate n 0).getD j 0 = 0 := by
    rw [List.getD_eq_getElem?_getD, List.getElem?_replicate]; split <;> rfl
  rw [DLC, this, List.drop_zero]; rfl
theorem DLC_set {ls : List (List CT)} {ats : List Nat} {b ab : Nat} (h : ats[b]? = some ab) : DLC ls (ats.set b (ab + 1)) = updLC (DLC ls ats) b := by
  funext j
  obtain ⟨hb, hb2⟩ := List.getElem?_eq_some_iff.1 h
  by_cases e : j = b
  · subst e
    simp [DLC, updLC, hb, hb2]
  · simp [DLC, updLC, e, List.getElem?_set, show ¬ b = j from fun h => e h.symm]
def bIC : PKC → Int
  | none => -1
  | some (i, _) => (i : Int)
theorem bIC_lt {o : PKC} (h : bIC o < 0) : o = none := by
  cases o with
  | none => rfl
  | some q => obtain ⟨i, x⟩ := q; simp only [bIC] at h; omega
theorem bIC_ge {o : PKC} (h : ¬ bIC o < 0) : ∃ i x, o = some (i, x) := by
  cases o with
  | none => exact absurd (by decide) h
  | some q => exact ⟨q.1, q.2, rfl⟩
theorem head_dropC {l : List CT} {a : Nat} {y : CT} {t : List CT} (h : l.drop a = y :: t) : l[a]? = some y := by
  have := congrArg (fun l => l[0]?) h
  simpa using this
theorem sumC_abs {eq : CT → CT → Bool} {x y : CT} {l : List CT} (h : eq x y = true) : sumC eq (x :: y :: l) = sumC eq ((x.1, IntKind.i64.wrap (x.2 + y.2)) :: l) := by
  rw [sumC_cons, sumC_cons, absC, if_pos h]
theorem sumC_ne {eq : CT → CT → Bool} {x y : CT} {l : List CT} (h : eq x y = false) : sumC eq (x :: y :: l) = (if x.2 ≠ 0 then [x] else []) ++ sumC eq (y :: l) := by
  have e : absC eq x (y :: l) = (x, y :: l) := by rw [absC, h]; rfl
  rw [sumC_cons, e]; split <;> rfl
theorem sumC_one {eq : CT → CT → Bool} {x : CT} : sumC eq [x] = if x.2 ≠ 0 then [x] else [] := by
  rw [sumC_cons]; rfl
/-- What the reference has, with what is left, makes the sums. -/
def SumI (eq : CT → CT → Bool) (tgt : List CT) (op : Bool) (out M : List CT) : Prop := (op = false ∧ out = [] ∧ sumC eq M = tgt) ∨ (op = true ∧ ∃ o x, out = o ++ [x] ∧ o ++ sumC eq (x :: M) = tgt)
-- f42 "pedigree/pedigreeref09.Sum" params [62] results [64] -> [(ResultVar.tmp 2)] nfree 0 ntmps 132 names ["
set_option maxHeartbeats 4000000 in
set_option maxRecDepth 100000 in
theorem RSum_c {B0 : Nat} {w0 : World} {lo hi lo2 hi2 : Nat} {A : Option Addr} {n c : Nat} {vs : List Value} {ls : List (List CT)} (w : World) (hs : Sl KR1 lo hi w A n vs) (hr : SlRows KCt lo2 hi2 w vs ls) (hhi : hi ≤ w.heap.size) (hhi2 : hi2 ≤ w.heap.size) (hn : n ≤ 1000) (htl : totLC (LLC ls) n ≤ 1000000) (hCW : CWc B0 w0 w) (hok : ∀ l ∈ ls, ∀ x, x ∈ l → okC B0 w0 x) : Ret Try.prog 42 #[.slice A n c] w fun r w' => Fresh KCt 70 w w' r (sumC (eqC B0 w0) (mgCC (ltC B0 w0) n (LLC ls))) := by
  have hl := hs.len
  have hrl := hr.len
  refine X.enter Try.func42 rfl Try.ntmps42 rfl ?_
  refine X.seq ?_
  refine X.region ?_
  refine X.opw X.wN rfl (X.assign rfl) ?_
  refine X.opsEnd ?_
  refine X.seq ?_
  refine X.region ?_
  refine X.opw X.wN rfl (X.move (v := .slice _ _ _) rfl) ?_
  refine X.opw X.wN rfl (X.lenSl Try.underlying62 rfl) ?_
  refine X.opE X.wN rfl (X.mkN (n := n) (S := fun k => k = w.heap.size) Try.underlying54 INF rfl rfl (by omega) rfl) ?_
  rintro _ w1 ⟨rfl, hs1, hM1, hk1, hz1⟩
  refine X.opw X.wN rfl (X.assign (v := .slice _ _ _) rfl) ?_
  refine X.opsEnd ?_
  refine X.seq ?_
  refine X.region ?_
  refine X.opw X.wN rfl (X.assign rfl) ?_
  refine X.opsEnd ?_
  refine X.seq ?_
  refine X.region ?_
  refine X.opw X.wN rfl (X.assign rfl) ?_
  refine X.opsEnd ?_
  refine X.block ?_
  -- LOOP live: 0=l, 3=heads, 4=out*, 5=open*
  refine X.loopL (σ := List Nat × Value × List CT × Bool) (fun s => [(0, .slice A n c), (3, .slice (some ⟨w.heap.size, 0, none⟩) n n), (4, s.2.1), (5, .bool s.2.2.2)]) (fun s w' => s.1.length = n ∧ s.2.2.1.length + totLC (DLC ls s.1) n ≤ totLC (LLC ls) n ∧ SumI (eqC B0 w0) (sumC (eqC B0 w0) (mgCC (ltC B0 w0) n (LLC ls))) s.2.2.2 s.2.2.1 (mgCC (ltC B0 w0) n (DLC ls s.1)) ∧ (∀ z, z ∈ s.2.2.1 → okC B0 w0 z) ∧ Mine KNt 3 (fun k => k = w.heap.size) 0 0 w' (.slice (some ⟨w.heap.size, 0, none⟩) n n) s.1 ∧ Mine KCt 70 (fun k => w.heap.size < k) 0 0 w' s.2.1 s.2.2.1 ∧ Keep w w' ∧ w.heap.size < w'.heap.size) (fun s => totLC (DLC ls s.1) n) (List.replicate n 0, _, [], false) ⟨rfl, rfl, rfl, rfl, trivial⟩ ⟨List.length_replicate, by rw [DLC_zero]; simp, .inl ⟨rfl, rfl, by rw [DLC_zero]⟩, fun z hz => by simp at hz, hM1, Mine.nil _ _ _ _ _ _, hk1, by omega⟩ ?_
  rintro ⟨ats, v, out, op⟩ b0 wl ⟨hal, htot, ho, hoz, hMa, hM0, hk, hwl⟩ hback
  dsimp only
  simp only at hal htot ho hoz hMa hM0
  have hk' := hk.size
  have hsa := mine_at hMa
  refine X.block ?_
  refine X.seq ?_
  refine X.region ?_
  refine X.opw X.wN rfl (X.assign rfl) ?_
  refine X.opsEnd ?_
  refine X.seq ?_
  refine X.seq ?_
  refine X.region ?_
  refine X.opw X.wN rfl (X.assign rfl) ?_
  refine X.opsEnd ?_
  refine X.block ?_
  -- LOOP live: 0=l, 3=heads, 4=out, 5=open, 6=best*, 7=i*
  refine X.loopL (σ := Nat) (fun s => [(0, .slice A n c), (3, .slice (some ⟨w.heap.size, 0, none⟩) n n), (4, v), (5, .bool op), (6, .int .i64 (bIC (pkC (ltC B0 w0) (DLC ls ats) s))), (7, .int .i64 (s : Int))]) (fun s w' => s ≤ n ∧ Keep wl w' ∧ Keep w w') (fun s => n - s) 0 ⟨rfl, rfl, rfl, rfl, rfl, rfl, trivial⟩ ⟨Nat.zero_le _, Keep.refl _, hk⟩ ?_
  rintro i b2 wm ⟨hi, hwm, hkm⟩ hback2
  have hkm' := hkm.size
  have hwm' := hwm.size
  have hM0m := hM0.keep hwm
  refine X.seq ?_
  refine X.seq ?_
  refine X.region ?_
  refine X.opw X.wN rfl (X.move (v := .int .i64 _) rfl) ?_
  refine X.opw X.wN rfl (X.move (v := .slice _ _ _) rfl) ?_
  refine X.opw X.wN rfl (X.lenSl Try.underlying62 rfl) ?_
  refine X.opP X.wN rfl rfl (X.lss rfl rfl) (fun h16 => ?_) (fun h16 => ?_)
  · obtain ⟨ai, hai⟩ : ∃ ai, ats[i]? = some ai := ⟨ats[i]'(by omega), List.getElem?_eq_getElem (by omega)⟩
    obtain ⟨vi, hvi⟩ : ∃ vi, vs[i]? = some vi := ⟨vs[i]'(by omega), List.getElem?_eq_getElem (by omega)⟩
    obtain ⟨li, Ai, ni, ci, hli, rfl, hnci, hsi⟩ := hr.get hvi
    have hDi := DLC_at hli hai
    have hlil := hsi.len
    have hlib := hsi.bound
    refine X.opsEnd ?_
    refine X.condT rfl ?_
    refine X.skip ?_
    refine X.seq ?_
    refine X.block ?_
    refine X.seq ?_
    refine X.seq ?_
    refine X.regionD (fun k => w.heap.size < k) 10 (by kernel_rfl) (by kernel_rfl) (fun w2 hk2 hz2 => ?_)
    refine X.dTake 0 rfl (by kernel_rfl) (by kernel_rfl) (by kernel_rfl) (X.dwN rfl) (fun w' hk' => X.move (v := .slice _ _ _) rfl) ?_
    refine X.dTake 1 rfl (by kernel_rfl) (by kernel_rfl) (by kernel_rfl) (X.dwN rfl) (fun w' hk' => X.move (v := .int .i64 _) rfl) ?_
    refine X.dTake 2 rfl (by kernel_rfl) (by kernel_rfl) (by kernel_rfl) (X.dwN rfl) (fun w' hk' => X.idxS (((hsa.keep hwm).keep hk2).ext hk' (by intros; (try simp only []); omega)) Try.underlying54 Try.sizeOf3 rfl rfl ⟨by omega, by omega⟩) ?_
    refine X.dTake 3 rfl (by kernel_rfl) (by kernel_rfl) (by kernel_rfl) (X.dwN rfl) (fun w' hk' => X.loadS Try.isAgg3 (((hsa.keep hwm).keep hk2).ext hk' (by intros; (try simp only []); omega)) hai rfl (fun _ h => by rw [h.1]; rfl)) ?_
    refine X.dTake 4 rfl (by kernel_rfl) (by kernel_rfl) (by kernel_rfl) (X.dwN rfl) (fun w' hk' => X.move (v := .slice _ _ _) rfl) ?_
    refine X.dTake 5 rfl (by kernel_rfl) (by kernel_rfl) (by kernel_rfl) (X.dwN rfl) (fun w' hk' => X.move (v := .int .i64 _) rfl) ?_
    refine X.dTake 6 rfl (by kernel_rfl) (by kernel_rfl) (by kernel_rfl) (X.dwN rfl) (fun w' hk' => X.idxS (hs.keep ((hkm.trans hk2).step hk' (by intros; (try simp only [] at *); omega))) Try.underlying62 Try.sizeOf64 rfl rfl ⟨by omega, by omega⟩) ?_
    refine X.dTake 7 rfl (by kernel_rfl) (by kernel_rfl) (by kernel_rfl) (X.dwN rfl) (fun w' hk' => X.loadS Try.isAgg64 (hs.keep ((hkm.trans hk2).step hk' (by intros; (try simp only [] at *); omega))) hvi rfl (fun _ h => by rw [h.1]; rfl)) ?_
    refine X.dTake 8 rfl (by kernel_rfl) (by kernel_rfl) (by kernel_rfl) (X.dwN rfl) (fun w' hk' => X.lenSl Try.underlying64 rfl) ?_
    refine X.dTake 9 rfl (by kernel_rfl) (by kernel_rfl) (by kernel_rfl) (X.dwN rfl) (fun w' hk' => X.geq rfl rfl) ?_
    refine X.dEnd (by kernel_rfl) ?_
    refine X.condB rfl (fun hc => ?_) (fun hc => ?_)
    · have hDn : DLC ls ats i = [] := by rw [hDi, List.drop_of_length_le (by simp at hc; omega)]
      refine X.exit rfl ?_
      refine X.region ?_
      refine X.opw X.wN rfl (X.move (v := .int .i64 _) rfl) ?_
      refine X.opw X.wN rfl (X.add rfl rfl (X.w_i64 (by omega))) ?_
      refine X.opw X.wN rfl (X.assign (v := .int .i64 _) rfl) ?_
      refine X.opsEnd ?_
      have hpk := pkC_nil (lt := ltC B0 w0) hDn
      refine hback2 (i + 1) _ _ ⟨(by first | rfl | (rw [hpk]; rfl)), (by first | rfl | (rw [hpk]; rfl)), (by first | rfl | (rw [hpk]; rfl)), (by first | rfl | (rw [hpk]; rfl)), (by first | rfl | (rw [hpk]; rfl)), (by first | rfl | (rw [hpk]; rfl)), trivial⟩ ⟨by omega, (hwm.trans hk2), (hkm.trans hk2)⟩ (by omega)
    · obtain ⟨x, hx⟩ := getC ai hlil (by simp at hc; omega)
      have hDx : DLC ls ats i = x :: li.drop (ai + 1) := by rw [hDi, drop_at hx]
      have hailt := (List.getElem?_eq_some_iff.1 hx).1
      have hxok := hok li (List.mem_of_getElem? hli) x (List.mem_of_getElem? hx)
      refine X.skip ?_
      refine X.seq ?_
      refine X.regionD (fun k => w.heap.size < k) 28 (by kernel_rfl) (by kernel_rfl) (fun w3 hk3 hz3 => ?_)
      refine X.dTake 0 rfl (by kernel_rfl) (by kernel_rfl) (by kernel_rfl) (X.dwN rfl) (fun w' hk' => X.move (v := .int .i64 _) rfl) ?_
      refine X.dTake 1 rfl (by kernel_rfl) (by kernel_rfl) (by kernel_rfl) (X.dwN rfl) (fun w' hk' => X.lss rfl rfl) ?_
      refine X.dTake 2 rfl (by kernel_rfl) (by kernel_rfl) (by kernel_rfl) (X.dwN rfl) (fun w' hk' => X.move (v := .bool _) rfl) ?_
      refine X.dFork 31 rfl (fun h31 => ?_) (fun h31 => ?_)
      · have hob : pkC (ltC B0 w0) (DLC ls ats) i = none := bIC_lt (of_decide_eq_true h31)
        refine X.dTakeS 3 rfl (by kernel_rfl) (by kernel_rfl) (by kernel_rfl) rfl rfl rfl rfl ?_
        refine X.dTakeS 4 rfl (by kernel_rfl) (by kernel_rfl) (by kernel_rfl) rfl rfl rfl rfl ?_
        refine X.dTakeS 5 rfl (by kernel_rfl) (by kernel_rfl) (by kernel_rfl) rfl rfl rfl rfl ?_
        refine X.dTakeS 6 rfl (by kernel_rfl) (by kernel_rfl) (by kernel_rfl) rfl rfl rfl rfl ?_
        refine X.dTakeS 7 rfl (by kernel_rfl) (by kernel_rfl) (by kernel_rfl) rfl rfl rfl rfl ?_
        refine X.dTakeS 8 rfl (by kernel_rfl) (by kernel_rfl) (by kernel_rfl) rfl rfl rfl rfl ?_
        refine X.dTakeS 9 rfl (by kernel_rfl) (by kernel_rfl) (by kernel_rfl) rfl rfl rfl rfl ?_
        refine X.dTakeS 10 rfl (by kernel_rfl) (by kernel_rfl) (by kernel_rfl) rfl rfl rfl rfl ?_
        refine X.dTakeS 11 rfl (by kernel_rfl) (by kernel_rfl) (by kernel_rfl) rfl rfl rfl rfl ?_
        refine X.dTakeS 12 rfl (by kernel_rfl) (by kernel_rfl) (by kernel_rfl) rfl rfl rfl rfl ?_
        refine X.dTakeS 13 rfl (by kernel_rfl) (by kernel_rfl) (by kernel_rfl) rfl rfl rfl rfl ?_
        refine X.dTakeS 14 rfl (by kernel_rfl) (by kernel_rfl) (by kernel_rfl) rfl rfl rfl rfl ?_
        refine X.dTakeS 15 rfl (by kernel_rfl) (by kernel_rfl) (by kernel_rfl) rfl rfl rfl rfl ?_
        refine X.dTakeS 16 rfl (by kernel_rfl) (by kernel_rfl) (by kernel_rfl) rfl rfl rfl rfl ?_
        refine X.dTakeS 17 rfl (by kernel_rfl) (by kernel_rfl) (by kernel_rfl) rfl rfl rfl rfl ?_
        refine X.dTakeS 18 rfl (by kernel_rfl) (by kernel_rfl) (by kernel_rfl) rfl rfl rfl rfl ?_
        refine X.dSkip (i := 19) (by kernel_rfl) rfl rfl rfl rfl rfl ?_
        refine X.dSkip (i := 20) (by kernel_rfl) rfl rfl rfl rfl rfl ?_
        refine X.dSkip (i := 21) (by kernel_rfl) rfl rfl rfl rfl rfl ?_
        refine X.dSkip (i := 22) (by kernel_rfl) rfl rfl rfl rfl rfl ?_
        refine X.dSkip (i := 23) (by kernel_rfl) rfl rfl rfl rfl rfl ?_
        refine X.dSkip (i := 24) (by kernel_rfl) rfl rfl rfl rfl rfl ?_
        refine X.dSkip (i := 25) (by kernel_rfl) rfl rfl rfl rfl rfl ?_
        refine X.dSkip (i := 26) (by kernel_rfl) rfl rfl rfl rfl rfl ?_
        refine X.dTake 27 rfl (by kernel_rfl) (by kernel_rfl) (by kernel_rfl) (X.dwN rfl) (fun w' hk' => X.pickT (v := .bool true) rfl rfl) ?_
        refine X.dEnd (by kernel_rfl) ?_
        refine X.condT rfl ?_
        refine X.region ?_
        refine X.opw X.wN rfl (X.move (v := .int .i64 _) rfl) ?_
        refine X.opw X.wN rfl (X.assign (v := .int .i64 _) rfl) ?_
        refine X.opsEnd ?_
        refine X.inBlock ?_
        refine X.region ?_
        refine X.opw X.wN rfl (X.move (v := .int .i64 _) rfl) ?_
        refine X.opw X.wN rfl (X.add rfl rfl (X.w_i64 (by omega))) ?_
        refine X.opw X.wN rfl (X.assign (v := .int .i64 _) rfl) ?_
        refine X.opsEnd ?_
        have hpk := pkC_new hDx (.inl hob)
        refine hback2 (i + 1) _ _ ⟨(by first | rfl | (rw [hpk]; rfl)), (by first | rfl | (rw [hpk]; rfl)), (by first | rfl | (rw [hpk]; rfl)), (by first | rfl | (rw [hpk]; rfl)), (by first | rfl | (rw [hpk]; rfl)), (by first | rfl | (rw [hpk]; rfl)), trivial⟩ ⟨by omega, ((hwm.trans hk2).trans hk3), ((hkm.trans hk2).trans hk3)⟩ (by omega)
      · obtain ⟨b, y, hob⟩ := bIC_ge (of_decide_eq_false h31)
        obtain ⟨lb0, hbn, tb, hDb0⟩ : ∃ lb0 : Nat, b < n ∧ ∃ tb, DLC ls ats b = y :: tb := by
          obtain ⟨q1, q2, q3⟩ := pkC_some hob
          exact ⟨0, by omega, q2, q3⟩
        obtain ⟨ab, hab⟩ : ∃ ab, ats[b]? = some ab := ⟨ats[b]'(by omega), List.getElem?_eq_getElem (by omega)⟩
        obtain ⟨vb, hvb⟩ : ∃ vb, vs[b]? = some vb := ⟨vs[b]'(by omega), List.getElem?_eq_getElem (by omega)⟩
        obtain ⟨lb, Ab, nb, cb, hlb, rfl, hncb, hsb⟩ := hr.get hvb
        have hDb := DLC_at hlb hab
        rw [hDb0] at hDb
        have hy := head_dropC hDb.symm
        have hylt := (List.getElem?_eq_some_iff.1 hy).1
        have hlbl := hsb.len
        have hlbb := hsb.bound
        have hyok := hok lb (List.mem_of_getElem? hlb) y (List.mem_of_getElem? hy)
        rw [hob, show bIC (some (b, y)) = (b : Int) from rfl]
        refine X.dTake 3 rfl (by kernel_rfl) (by kernel_rfl) (by kernel_rfl) (X.dwG rfl rfl rfl) (fun w' hk' => X.move (v := .slice _ _ _) rfl) ?_
        refine X.dTake 4 rfl (by kernel_rfl) (by kernel_rfl) (by kernel_rfl) (X.dwG rfl rfl rfl) (fun w' hk' => X.move (v := .int .i64 _) rfl) ?_
        refine X.dTake 5 rfl (by kernel_rfl) (by kernel_rfl) (by kernel_rfl) (X.dwG rfl rfl rfl) (fun w' hk' => X.idxS (hs.keep (((hkm.trans hk2).trans hk3).step hk' (by intros; (try simp only [] at *); omega))) Try.underlying62 Try.sizeOf64 rfl rfl ⟨by omega, by omega⟩) ?_
        refine X.dTake 6 rfl (by kernel_rfl) (by kernel_rfl) (by kernel_rfl) (X.dwG rfl rfl rfl) (fun w' hk' => X.loadS Try.isAgg64 (hs.keep (((hkm.trans hk2).trans hk3).step hk' (by intros; (try simp only [] at *); omega))) hvi rfl (fun _ h => by rw [h.1]; rfl)) ?_
        refine X.dTake 7 rfl (by kernel_rfl) (by kernel_rfl) (by kernel_rfl) (X.dwG rfl rfl rfl) (fun w' hk' => X.move (v := .slice _ _ _) rfl) ?_
        refine X.dTake 8 rfl (by kernel_rfl) (by kernel_rfl) (by kernel_rfl) (X.dwG rfl rfl rfl) (fun w' hk' => X.move (v := .int .i64 _) rfl) ?_
        refine X.dTake 9 rfl (by kernel_rfl) (by kernel_rfl) (by kernel_rfl) (X.dwG rfl rfl rfl) (fun w' hk' => X.idxS (((hsa.keep hwm).keep (hk2.trans hk3)).ext hk' (by intros; (try simp only []); omega)) Try.underlying54 Try.sizeOf3 rfl rfl ⟨by omega, by omega⟩) ?_
        refine X.dTake 10 rfl (by kernel_rfl) (by kernel_rfl) (by kernel_rfl) (X.dwG rfl rfl rfl) (fun w' hk' => X.loadS Try.isAgg3 (((hsa.keep hwm).keep (hk2.trans hk3)).ext hk' (by intros; (try simp only []); omega)) hai rfl (fun _ h => by rw [h.1]; rfl)) ?_
        refine X.dTake 11 rfl (by kernel_rfl) (by kernel_rfl) (by kernel_rfl) (X.dwG rfl rfl rfl) (fun w' hk' => X.idxS (hsi.keep (((hkm.trans hk2).trans hk3).step hk' (by intros; (try simp only [] at *); omega))) Try.underlying64 Try.sizeOf70 rfl rfl ⟨by omega, by omega⟩) ?_
        refine X.dTake 12 rfl (by kernel_rfl) (by kernel_rfl) (by kernel_rfl) (X.dwG rfl rfl rfl) (fun w' hk' => X.fldA Try.underlying70 rfl rfl Try.sizeOf68) ?_
        refine X.dTake 13 rfl (by kernel_rfl) (by kernel_rfl) (by kernel_rfl) (X.dwG rfl rfl rfl) (fun w' hk' => X.loadSf Try.isAgg68 (hsi.keep (((hkm.trans hk2).trans hk3).step hk' (by intros; (try simp only [] at *); omega))) hx rfl (fun _ h => by rw [h.1]; rfl)) ?_
        refine X.dTake 14 rfl (by kernel_rfl) (by kernel_rfl) (by kernel_rfl) (X.dwG rfl rfl rfl) (fun w' hk' => X.move (v := .slice _ _ _) rfl) ?_
        refine X.dTake 15 rfl (by kernel_rfl) (by kernel_rfl) (by kernel_rfl) (X.dwG rfl rfl rfl) (fun w' hk' => X.move (v := .int .i64 _) rfl) ?_
        refine X.dTake 16 rfl (by kernel_rfl) (by kernel_rfl) (by kernel_rfl) (X.dwG rfl rfl rfl) (fun w' hk' => X.idxS (hs.keep (((hkm.trans hk2).trans hk3).step hk' (by intros; (try simp only [] at *); omega))) Try.underlying62 Try.sizeOf64 rfl rfl ⟨by omega, by omega⟩) ?_
        refine X.dTake 17 rfl (by kernel_rfl) (by kernel_rfl) (by kernel_rfl) (X.dwG rfl rfl rfl) (fun w' hk' => X.loadS Try.isAgg64 (hs.keep (((hkm.trans hk2).trans hk3).step hk' (by intros; (try simp only [] at *); omega))) hvb rfl (fun _ h => by rw [h.1]; rfl)) ?_
        refine X.dTake 18 rfl (by kernel_rfl) (by kernel_rfl) (by kernel_rfl) (X.dwG rfl rfl rfl) (fun w' hk' => X.move (v := .slice _ _ _) rfl) ?_
        refine X.dTake 19 rfl (by kernel_rfl) (by kernel_rfl) (by kernel_rfl) (X.dwG rfl rfl rfl) (fun w' hk' => X.move (v := .int .i64 _) rfl) ?_
        refine X.dTake 20 rfl (by kernel_rfl) (by kernel_rfl) (by kernel_rfl) (X.dwG rfl rfl rfl) (fun w' hk' => X.idxS (((hsa.keep hwm).keep (hk2.trans hk3)).ext hk' (by intros; (try simp only []); omega)) Try.underlying54 Try.sizeOf3 rfl rfl ⟨by omega, by omega⟩) ?_
        refine X.dTake 21 rfl (by kernel_rfl) (by kernel_rfl) (by kernel_rfl) (X.dwG rfl rfl rfl) (fun w' hk' => X.loadS Try.isAgg3 (((hsa.keep hwm).keep (hk2.trans hk3)).ext hk' (by intros; (try simp only []); omega)) hab rfl (fun _ h => by rw [h.1]; rfl)) ?_
        refine X.dTake 22 rfl (by kernel_rfl) (by kernel_rfl) (by kernel_rfl) (X.dwG rfl rfl rfl) (fun w' hk' => X.idxS (hsb.keep (((hkm.trans hk2).trans hk3).step hk' (by intros; (try simp only [] at *); omega))) Try.underlying64 Try.sizeOf70 rfl rfl ⟨by omega, by omega⟩) ?_
        refine X.dTake 23 rfl (by kernel_rfl) (by kernel_rfl) (by kernel_rfl) (X.dwG rfl rfl rfl) (fun w' hk' => X.fldA Try.underlying70 rfl rfl Try.sizeOf68) ?_
        refine X.dTake 24 rfl (by kernel_rfl) (by kernel_rfl) (by kernel_rfl) (X.dwG rfl rfl rfl) (fun w' hk' => X.loadSf Try.isAgg68 (hsb.keep (((hkm.trans hk2).trans hk3).step hk' (by intros; (try simp only [] at *); omega))) hy rfl (fun _ h => by rw [h.1]; rfl)) ?_
        refine X.dE (i := 25) (by kernel_rfl) rfl (X.dwG rfl rfl rfl) (X.callE (R02Compare_c _ (tp_now hxok (hCW.step (((hkm.trans hk2).trans hk3).mono fun _ _ h => h.elim))) (tp_now hyok (hCW.step (((hkm.trans hk2).trans hk3).mono fun _ _ h => h.elim)))) Try.call43 rfl rfl) (by rintro _ w4 ⟨rfl, hk4⟩ _; exact hk4.mono (fun _ _ h => h.elim)) ?_
        rintro _ w4 ⟨rfl, hk4⟩
        have hk4' := hk4.size
        refine X.dTake 26 rfl (by kernel_rfl) (by kernel_rfl) (by kernel_rfl) (X.dwG rfl rfl rfl) (fun w' hk' => X.lss rfl rfl) ?_
        refine X.dTake 27 rfl (by kernel_rfl) (by kernel_rfl) (by kernel_rfl) (X.dwN rfl) (fun w' hk' => X.pickF (v := .bool _) rfl rfl) ?_
        refine X.dEnd (by kernel_rfl) ?_
        refine X.condB rfl (fun hc => ?_) (fun hc => ?_)
        · have hxy : ltC B0 w0 x (bestXC (pkC (ltC B0 w0) (DLC ls ats) i)) = true := by rw [hob]; exact hc
          refine X.region ?_
          refine X.opw X.wN rfl (X.move (v := .int .i64 _) rfl) ?_
          refine X.opw X.wN rfl (X.assign (v := .int .i64 _) rfl) ?_
          refine X.opsEnd ?_
          refine X.inBlock ?_
          refine X.region ?_
          refine X.opw X.wN rfl (X.move (v := .int .i64 _) rfl) ?_
          refine X.opw X.wN rfl (X.add rfl rfl (X.w_i64 (by omega))) ?_
          refine X.opw X.wN rfl (X.assign (v := .int .i64 _) rfl) ?_
          refine X.opsEnd ?_
          have hpk := pkC_new hDx (.inr hxy)
          refine hback2 (i + 1) _ _ ⟨(by first | rfl | (rw [hpk]; rfl)), (by first | rfl | (rw [hpk]; rfl)), (by first | rfl | (rw [hpk]; rfl)), (by first | rfl | (rw [hpk]; rfl)), (by first | rfl | (rw [hpk]; rfl)), (by first | rfl | (rw [hpk]; rfl)), trivial⟩ ⟨by omega, (((hwm.trans hk2).trans hk3).trans hk4), (((hkm.trans hk2).trans hk3).trans hk4)⟩ (by omega)
        · have hxy : ¬ ltC B0 w0 x (bestXC (pkC (ltC B0 w0) (DLC ls ats) i)) = true := fun h => by rw [hob] at h; exact Bool.noConfusion (h.symm.trans hc)
          refine X.skip ?_
          refine X.inBlock ?_
          refine X.region ?_
          refine X.opw X.wN rfl (X.move (v := .int .i64 _) rfl) ?_
          refine X.opw X.wN rfl (X.add rfl rfl (X.w_i64 (by omega))) ?_
          refine X.opw X.wN rfl (X.assign (v := .int .i64 _) rfl) ?_
          refine X.opsEnd ?_
          have hpk := (pkC_old hDx (by rw [hob]; simp) hxy).trans hob
          refine hback2 (i + 1) _ _ ⟨(by first | rfl | (rw [hpk]; rfl)), (by first | rfl | (rw [hpk]; rfl)), (by first | rfl | (rw [hpk]; rfl)), (by first | rfl | (rw [hpk]; rfl)), (by first | rfl | (rw [hpk]; rfl)), (by first | rfl | (rw [hpk]; rfl)), trivial⟩ ⟨by omega, (((hwm.trans hk2).trans hk3).trans hk4), (((hkm.trans hk2).trans hk3).trans hk4)⟩ (by omega)
  · have hin : i = n := by omega
    refine X.opsEnd ?_
    refine X.condF rfl ?_
    refine X.exit rfl ?_
    refine X.seq ?_
    refine X.region ?_
    refine X.opw X.wN rfl (X.move rfl) ?_
    have q5 := hM0m.slF KCt_flat (w.heap.size + 1) (fun _ h => h)
    obtain ⟨A5, c5, rfl, hc5, hs5⟩ := q5
    refine X.opw X.wN rfl (X.lenSl Try.underlying64 rfl) ?_
    obtain ⟨la, hla⟩ : ∃ la : Int, la = (out.length : Int) - 1 := ⟨_, rfl⟩
    refine X.opw X.wN rfl (X.sub (c := la) rfl rfl (by rw [X.w_i64 (by omega)]; omega)) ?_
    refine X.opw X.wN rfl (X.assign (v := .int .i64 _) rfl) ?_
    refine X.opsEnd ?_
    refine X.seq ?_
    refine X.seq ?_
    refine X.region ?_
    refine X.opw X.wN rfl (X.move (v := .int .i64 _) rfl) ?_
    refine X.opP X.wN rfl rfl (X.lss rfl rfl) (fun h62 => ?_) (fun h62 => ?_)
    · refine X.opsEnd ?_
      refine X.condT rfl ?_
      refine X.seq ?_
      refine X.seq ?_
      refine X.region ?_
      refine X.opw X.wN rfl (X.move (v := .bool _) rfl) ?_
      refine X.opw X.wN rfl (X.move (v := .bool _) rfl) ?_
      refine X.forkO 64 rfl (fun h64 => ?_) (fun h64 => ?_)
      · subst h64
        obtain ⟨_, o, x, rfl, hoo⟩ := ho.resolve_left (fun h => by cases h.1)
        obtain rfl : la = (o.length : Int) := by simp at hla; omega
        have hlast : (o ++ [x])[o.length]? = some x := by rw [List.getElem?_append_right (Nat.le_refl _), Nat.sub_self]; rfl
        have hzok := hoz x (by simp)
        have hol : (o ++ [x]).length = o.length + 1 := by simp
        refine X.opw (X.wG rfl rfl rfl) rfl (X.move rfl) ?_
        refine X.opw (X.wG rfl rfl rfl) rfl (X.move (v := .int .i64 _) rfl) ?_
        refine X.opw (X.wG rfl rfl rfl) rfl (X.idxS hs5 Try.underlying64 Try.sizeOf70 rfl rfl ⟨by omega, by omega⟩) ?_
        refine X.opw (X.wG rfl rfl rfl) rfl (X.fldA Try.underlying70 rfl rfl Try.sizeOf2) ?_
        refine X.opw (X.wG rfl rfl rfl) rfl (X.loadSf Try.isAgg2 hs5 hlast rfl (fun _ h => by rw [h.1]; rfl)) ?_
        refine X.opP (X.wG rfl rfl rfl) rfl rfl (X.eqI rfl rfl) (fun h70 => ?_) (fun h70 => ?_)
        · refine X.opw X.wN rfl (X.pickT (v := .bool true) rfl rfl) ?_
          refine X.opsEnd ?_
          refine X.condT rfl ?_
          refine X.region ?_
          refine X.opw X.wN rfl (X.move rfl) ?_
          refine X.opw X.wN rfl (X.move (v := .int .i64 _) rfl) ?_
          refine X.opw X.wN rfl (X.cutHr Try.underlying64 Try.sizeOf70 rfl rfl (by omega)) ?_
          refine X.opw X.wN rfl (X.assign rfl) ?_
          refine X.opsEnd ?_
          refine X.seq ?_
          refine X.region ?_
          refine X.opw X.wN rfl (X.move rfl) ?_
          refine X.opw X.wN rfl (X.assign rfl) ?_
          refine X.opsEnd ?_
          refine X.ret1 Try.func42 Try.results42 rfl ?_
          have e := bIC_lt h62
          rw [hin] at e
          rw [mgCC_none e] at hoo
          rw [sumC_one, if_neg (by simpa using h70), List.append_nil] at hoo
          have hMt := ((Mine.take hM0m o.length (by omega))).mono (T := fun k => w.heap.size ≤ k) (fun k _ h => by (try simp only [] at *); omega)
          rw [List.take_left] at hMt
          rw [← hoo]
          exact ⟨hMt, hkm⟩
        · refine X.opw X.wN rfl (X.pickT (v := .bool false) rfl rfl) ?_
          refine X.opsEnd ?_
          refine X.condF rfl ?_
          refine X.skip ?_
          refine X.seq ?_
          refine X.region ?_
          refine X.opw X.wN rfl (X.move rfl) ?_
          refine X.opw X.wN rfl (X.assign rfl) ?_
          refine X.opsEnd ?_
          refine X.ret1 Try.func42 Try.results42 rfl ?_
          have e := bIC_lt h62
          rw [hin] at e
          rw [mgCC_none e] at hoo
          rw [sumC_one, if_pos (by simpa using h70)] at hoo
          rw [← hoo]
          exact ⟨(hM0m).mono (T := fun k => w.heap.size ≤ k) (fun k _ h => by (try simp only [] at *); omega), hkm⟩
      · subst h64
        obtain ⟨_, rfl, hoo⟩ := ho.resolve_right (fun h => by cases h.1)
        refine X.opS rfl rfl rfl rfl rfl ?_
        refine X.opS rfl rfl rfl rfl rfl ?_
        refine X.opS rfl rfl rfl rfl rfl ?_
        refine X.opS rfl rfl rfl rfl rfl ?_
        refine X.opS rfl rfl rfl rfl rfl ?_
        refine X.opS rfl rfl rfl rfl rfl ?_
        refine X.opw X.wN rfl (X.pickF (v := .bool false) rfl rfl) ?_
        refine X.opsEnd ?_
        refine X.condF rfl ?_
        refine X.skip ?_
        refine X.seq ?_
        refine X.region ?_
        refine X.opw X.wN rfl (X.move rfl) ?_
        refine X.opw X.wN rfl (X.assign rfl) ?_
        refine X.opsEnd ?_
        refine X.ret1 Try.func42 Try.results42 rfl ?_
        have e := bIC_lt h62
        rw [hin] at e
        rw [mgCC_none e] at hoo
        rw [← hoo]
        exact ⟨(hM0m).mono (T := fun k => w.heap.size ≤ k) (fun k _ h => by (try simp only [] at *); omega), hkm⟩
    · obtain ⟨b, y, hob⟩ := bIC_ge h62
      rw [hin] at hob
      rw [hin]
      obtain ⟨lb0, hbn, tb, hDb0⟩ : ∃ lb0 : Nat, b < n ∧ ∃ tb, DLC ls ats b = y :: tb := by
        obtain ⟨q1, q2, q3⟩ := pkC_some hob
        exact ⟨0, by omega, q2, q3⟩
      obtain ⟨ab, hab⟩ : ∃ ab, ats[b]? = some ab := ⟨ats[b]'(by omega), List.getElem?_eq_getElem (by omega)⟩
      obtain ⟨vb, hvb⟩ : ∃ vb, vs[b]? = some vb := ⟨vs[b]'(by omega), List.getElem?_eq_getElem (by omega)⟩
      obtain ⟨lb, Ab, nb, cb, hlb, rfl, hncb, hsb⟩ := hr.get hvb
      have hDb := DLC_at hlb hab
      rw [hDb0] at hDb
      have hy := head_dropC hDb.symm
      have hylt := (List.getElem?_eq_some_iff.1 hy).1
      have hlbl := hsb.len
      have hlbb := hsb.bound
      have hyok := hok lb (List.mem_of_getElem? hlb) y (List.mem_of_getElem? hy)
      rw [hob, show bIC (some (b, y)) = (b : Int) from rfl]
      have hset := DLC_set (ls := ls) hab
      have htu := totLC_upd hDb0 n
      rw [if_pos hbn] at htu
      have hmg := mgCC_some hob
      refine X.opsEnd ?_
      refine X.condF rfl ?_
      refine X.skip ?_
      refine X.seq ?_
      refine X.regionD (fun k => w.heap.size < k) 11 (by kernel_rfl) (by kernel_rfl) (fun w6 hk6 hz6 => ?_)
      refine X.dTake 0 rfl (by kernel_rfl) (by kernel_rfl) (by kernel_rfl) (X.dwN rfl) (fun w' hk' => X.move (v := .slice _ _ _) rfl) ?_
      refine X.dTake 1 rfl (by kernel_rfl) (by kernel_rfl) (by kernel_rfl) (X.dwN rfl) (fun w' hk' => X.move (v := .int .i64 _) rfl) ?_
      refine X.dTake 2 rfl (by kernel_rfl) (by kernel_rfl) (by kernel_rfl) (X.dwN rfl) (fun w' hk' => X.idxS (hs.keep ((hkm.trans hk6).step hk' (by intros; (try simp only [] at *); omega))) Try.underlying62 Try.sizeOf64 rfl rfl ⟨by omega, by omega⟩) ?_
      refine X.dTake 3 rfl (by kernel_rfl) (by kernel_rfl) (by kernel_rfl) (X.dwN rfl) (fun w' hk' => X.loadS Try.isAgg64 (hs.keep ((hkm.trans hk6).step hk' (by intros; (try simp only [] at *); omega))) hvb rfl (fun _ h => by rw [h.1]; rfl)) ?_
      refine X.dTake 4 rfl (by kernel_rfl) (by kernel_rfl) (by kernel_rfl) (X.dwN rfl) (fun w' hk' => X.move (v := .slice _ _ _) rfl) ?_
      refine X.dTake 5 rfl (by kernel_rfl) (by kernel_rfl) (by kernel_rfl) (X.dwN rfl) (fun w' hk' => X.move (v := .int .i64 _) rfl) ?_
      refine X.dTake 6 rfl (by kernel_rfl) (by kernel_rfl) (by kernel_rfl) (X.dwN rfl) (fun w' hk' => X.idxS (((hsa.keep hwm).keep hk6).ext hk' (by intros; (try simp only []); omega)) Try.underlying54 Try.sizeOf3 rfl rfl ⟨by omega, by omega⟩) ?_
      refine X.dTake 7 rfl (by kernel_rfl) (by kernel_rfl) (by kernel_rfl) (X.dwN rfl) (fun w' hk' => X.loadS Try.isAgg3 (((hsa.keep hwm).keep hk6).ext hk' (by intros; (try simp only []); omega)) hab rfl (fun _ h => by rw [h.1]; rfl)) ?_
      refine X.dTake 8 rfl (by kernel_rfl) (by kernel_rfl) (by kernel_rfl) (X.dwN rfl) (fun w' hk' => X.idxS (hsb.keep ((hkm.trans hk6).step hk' (by intros; (try simp only [] at *); omega))) Try.underlying64 Try.sizeOf70 rfl rfl ⟨by omega, by omega⟩) ?_
      refine X.dTake 9 rfl (by kernel_rfl) (by kernel_rfl) (by kernel_rfl) (X.dwN rfl) (fun w' hk' => X.loadSN Try.isAgg70 Try.sizeOf70 (hsb.keep ((hkm.trans hk6).step hk' (by intros; (try simp only [] at *); omega))) hy rfl (fun _ h => h.1) rfl) ?_
      refine X.dE (i := 10) (by kernel_rfl) rfl (X.dwN rfl) (X.allocE Try.zeroValue70 rfl) (by rintro _ w7 ⟨rfl, hB7, hk7, hz7⟩ _; exact hk7.mono (fun _ _ h => h.elim)) ?_
      rintro _ w7 ⟨rfl, hB7, hk7, hz7⟩
      refine X.dE (i := 11) (by kernel_rfl) rfl (X.dwN rfl) (X.storeNE Try.sizeOf70 hB7 rfl rfl rfl rfl (fun u hu => by simp at hu; rcases hu with rfl | rfl <;> rfl)) (fun _ _ _ h => absurd h (by decide)) ?_
      rintro _ w8 ⟨hB8, hx8, hz8⟩
      refine X.dEnd (by kernel_rfl) ?_
      refine X.seq ?_
      refine X.region ?_
      refine X.opw X.wN rfl (X.move (v := .slice _ _ _) rfl) ?_
      refine X.opw X.wN rfl (X.move (v := .int .i64 _) rfl) ?_
      refine X.opw X.wN rfl (X.idxS ((hsa.keep hwm).keep ((hk6.trans hk7).step hx8 (by intros; (try simp only [] at *); omega))) Try.underlying54 Try.sizeOf3 rfl rfl ⟨by omega, by omega⟩) ?_
      refine X.opw X.wN rfl (X.loadS Try.isAgg3 ((hsa.keep hwm).keep ((hk6.trans hk7).step hx8 (by intros; (try simp only [] at *); omega))) hab rfl (fun _ h => by rw [h.1]; rfl)) ?_
      refine X.opw X.wN rfl (X.add (c := ((ab + 1 : Nat) : Int)) rfl rfl (by rw [X.w_i64 (by omega)]; omega)) ?_
      refine X.opw X.wN rfl (X.idxS ((hsa.keep hwm).keep ((hk6.trans hk7).step hx8 (by intros; (try simp only [] at *); omega))) Try.underlying54 Try.sizeOf3 rfl rfl ⟨by omega, by omega⟩) ?_
      refine X.opE X.wN rfl (X.storeMN (j := b) (y := ab + 1) Try.sizeOf3 ((hMa.keep hwm).keep ((hk6.trans hk7).step hx8 (by intros; (try simp only [] at *); omega))) (by omega) rfl rfl) ?_
      rintro _ w9 ⟨hM9, hx9, hz9⟩
      refine X.opsEnd ?_
      refine X.seq ?_
      refine X.seq ?_
      refine X.regionD (fun _ => False) 12 (by kernel_rfl) (by kernel_rfl) (fun w10 hk10 hz10 => ?_)
      refine X.dTake 0 rfl (by kernel_rfl) (by kernel_rfl) (by kernel_rfl) (X.dwN rfl) (fun w' hk' => X.move (v := .bool _) rfl) ?_
      refine X.dTake 1 rfl (by kernel_rfl) (by kernel_rfl) (by kernel_rfl) (X.dwN rfl) (fun w' hk' => X.move (v := .bool _) rfl) ?_
      refine X.dFork 93 rfl (fun h93 => ?_) (fun h93 => ?_)
      · subst h93
        obtain ⟨_, o, x, rfl, hoo⟩ := ho.resolve_left (fun h => by cases h.1)
        obtain rfl : la = (o.length : Int) := by simp at hla; omega
        have hlast : (o ++ [x])[o.length]? = some x := by rw [List.getElem?_append_right (Nat.le_refl _), Nat.sub_self]; rfl
        have hzok := hoz x (by simp)
        have hol : (o ++ [x]).length = o.length + 1 := by simp
        refine X.dTake 2 rfl (by kernel_rfl) (by kernel_rfl) (by kernel_rfl) (X.dwG rfl rfl rfl) (fun w' hk' => X.move rfl) ?_
        refine X.dTake 3 rfl (by kernel_rfl) (by kernel_rfl) (by kernel_rfl) (X.dwG rfl rfl rfl) (fun w' hk' => X.move (v := .int .i64 _) rfl) ?_
        refine X.dTake 4 rfl (by kernel_rfl) (by kernel_rfl) (by kernel_rfl) (X.dwG rfl rfl rfl) (fun w' hk' => X.idxS (((hs5.keep ((hk6.trans hk7).step hx8 (by intros; (try simp only [] at *); omega))).ext hx9 (by intros; (try simp only []); omega)).keep (hk10.trans hk')) Try.underlying64 Try.sizeOf70 rfl rfl ⟨by omega, by omega⟩) ?_
        refine X.dTake 5 rfl (by kernel_rfl) (by kernel_rfl) (by kernel_rfl) (X.dwG rfl rfl rfl) (fun w' hk' => X.fldA Try.underlying70 rfl rfl Try.sizeOf68) ?_
        refine X.dTake 6 rfl (by kernel_rfl) (by kernel_rfl) (by kernel_rfl) (X.dwG rfl rfl rfl) (fun w' hk' => X.loadSf Try.isAgg68 (((hs5.keep ((hk6.trans hk7).step hx8 (by intros; (try simp only [] at *); omega))).ext hx9 (by intros; (try simp only []); omega)).keep (hk10.trans hk')) hlast rfl (fun _ h => by rw [h.1]; rfl)) ?_
        refine X.dTake 7 rfl (by kernel_rfl) (by kernel_rfl) (by kernel_rfl) (X.dwG rfl rfl rfl) (fun w' hk' => X.fldB (j := 0) Try.underlying70 rfl rfl Try.sizeOf68 rfl) ?_
        refine X.dTake 8 rfl (by kernel_rfl) (by kernel_rfl) (by kernel_rfl) (X.dwG rfl rfl rfl) (fun w' hk' => X.load1B Try.isAgg68 ((hB8.ext hx9 (by intros; (try simp only []); omega)).keep (hk10.trans hk')) rfl rfl) ?_
        refine X.dE (i := 9) (by kernel_rfl) rfl (X.dwG rfl rfl rfl) (X.callE (R02Compare_c _ (tp_now hzok (hCW.step ((((((hkm.trans hk6).trans hk7).step hx8 (by intros; (try simp only [] at *); omega)).step hx9 (by intros; (try simp only [] at *); omega)).trans hk10).mono fun _ _ h => h.elim))) (tp_now hyok (hCW.step ((((((hkm.trans hk6).trans hk7).step hx8 (by intros; (try simp only [] at *); omega)).step hx9 (by intros; (try simp only [] at *); omega)).trans hk10).mono fun _ _ h => h.elim)))) Try.call43 rfl rfl) (by rintro _ w11 ⟨rfl, hk11⟩ _; exact hk11.mono (fun _ _ h => h.elim)) ?_
        rintro _ w11 ⟨rfl, hk11⟩
        have hk11' := hk11.size
        refine X.dTake 10 rfl (by kernel_rfl) (by kernel_rfl) (by kernel_rfl) (X.dwG rfl rfl rfl) (fun w' hk' => X.eqI rfl rfl) ?_
        refine X.dTake 11 rfl (by kernel_rfl) (by kernel_rfl) (by kernel_rfl) (X.dwN rfl) (fun w' hk' => X.pickT (v := .bool _) rfl rfl) ?_
        refine X.dEnd (by kernel_rfl) ?_
        refine X.condB rfl (fun hc => ?_) (fun hc => ?_)
        · refine X.seq ?_
          refine X.regionD (fun _ => False) 10 (by kernel_rfl) (by kernel_rfl) (fun w12 hk12 hz12 => ?_)
          refine X.dTake 0 rfl (by kernel_rfl) (by kernel_rfl) (by kernel_rfl) (X.dwN rfl) (fun w' hk' => X.move rfl) ?_
          refine X.dTake 1 rfl (by kernel_rfl) (by kernel_rfl) (by kernel_rfl) (X.dwN rfl) (fun w' hk' => X.move (v := .int .i64 _) rfl) ?_
          refine X.dTake 2 rfl (by kernel_rfl) (by kernel_rfl) (by kernel_rfl) (X.dwN rfl) (fun w' hk' => X.move rfl) ?_
          refine X.dTake 3 rfl (by kernel_rfl) (by kernel_rfl) (by kernel_rfl) (X.dwN rfl) (fun w' hk' => X.move (v := .int .i64 _) rfl) ?_
          refine X.dTake 4 rfl (by kernel_rfl) (by kernel_rfl) (by kernel_rfl) (X.dwN rfl) (fun w' hk' => X.idxS (((hs5.keep ((hk6.trans hk7).step hx8 (by intros; (try simp only [] at *); omega))).ext hx9 (by intros; (try simp only []); omega)).keep (((hk10.trans hk11).trans hk12).trans hk')) Try.underlying64 Try.sizeOf70 rfl rfl ⟨by omega, by omega⟩) ?_
          refine X.dTake 5 rfl (by kernel_rfl) (by kernel_rfl) (by kernel_rfl) (X.dwN rfl) (fun w' hk' => X.fldA Try.underlying70 rfl rfl Try.sizeOf2) ?_
          refine X.dTake 6 rfl (by kernel_rfl) (by kernel_rfl) (by kernel_rfl) (X.dwN rfl) (fun w' hk' => X.loadSf Try.isAgg2 (((hs5.keep ((hk6.trans hk7).step hx8 (by intros; (try simp only [] at *); omega))).ext hx9 (by intros; (try simp only []); omega)).keep (((hk10.trans hk11).trans hk12).trans hk')) hlast rfl (fun _ h => by rw [h.1]; rfl)) ?_
          refine X.dTake 7 rfl (by kernel_rfl) (by kernel_rfl) (by kernel_rfl) (X.dwN rfl) (fun w' hk' => X.fldB (j := 1) Try.underlying70 rfl rfl Try.sizeOf2 rfl) ?_
          refine X.dTake 8 rfl (by kernel_rfl) (by kernel_rfl) (by kernel_rfl) (X.dwN rfl) (fun w' hk' => X.load1B Try.isAgg2 ((hB8.ext hx9 (by intros; (try simp only []); omega)).keep (((hk10.trans hk11).trans hk12).trans hk')) rfl rfl) ?_
          refine X.dTake 9 rfl (by kernel_rfl) (by kernel_rfl) (by kernel_rfl) (X.dwN rfl) (fun w' hk' => X.add (c := IntKind.i64.wrap (x.2 + y.2)) rfl rfl rfl) ?_
          refine X.dStep (i := 10) (by kernel_rfl) rfl (X.dwN rfl) (X.idxS (((hs5.keep ((hk6.trans hk7).step hx8 (by intros; (try simp only [] at *); omega))).ext hx9 (by intros; (try simp only []); omega)).keep ((hk10.trans hk11).trans hk12)) Try.underlying64 Try.sizeOf70 rfl rfl ⟨by omega, by omega⟩) (fun h => absurd h (by decide)) ?_
          refine X.dStep (i := 11) (by kernel_rfl) rfl (X.dwN rfl) (X.fldA Try.underlying70 rfl rfl Try.sizeOf2) (fun h => absurd h (by decide)) ?_
          refine X.dE (i := 12) (by kernel_rfl) rfl (X.dwN rfl) (X.storeMF (K := KCt) (y := x) (y' := (x.1, IntKind.i64.wrap (x.2 + y.2))) (vs := [.int .i64 (IntKind.i64.wrap (x.2 + y.2))]) (i := 1) (j := o.length) KCt_flat Try.sizeOf2 (((hM0m.keep ((hk6.trans hk7).step hx8 (by intros; (try simp only [] at *); omega))).ext hx9 (by intros; (try simp only []); omega) (by intros; (try simp only []); omega)).keep ((hk10.trans hk11).trans hk12)) hlast rfl rfl rfl (fun u hu => by simp at hu; subst hu; rfl) (show 1 + 1 ≤ 2 by omega) (fun a h => ⟨by rw [h.1]; rfl, trivial⟩)) (fun _ _ _ h => absurd h (by decide)) ?_
          rintro _ w13 ⟨hM13, hx13, hz13⟩
          refine X.dEnd (by kernel_rfl) ?_
          refine X.exit rfl ?_
          refine hback (ats.set b (ab + 1), _, o ++ [(x.1, IntKind.i64.wrap (x.2 + y.2))], true) _ _ ⟨rfl, rfl, rfl, rfl, trivial⟩ ⟨by dsimp only; rw [List.length_set]; exact hal, by dsimp only; rw [hset]; simp only [List.length_append, List.length_singleton] at *; omega, .inr ⟨rfl, o, _, rfl, by dsimp only; rw [hset, ← hoo, hmg, sumC_abs (show eqC B0 w0 x y = true from hc)]⟩, fun z hz => (List.mem_append.1 hz).elim (fun h => hoz z (List.mem_append_left _ h)) (fun h => by rw [List.mem_singleton.1 h]; exact hzok), ((hM9.keep ((hk10.trans hk11).trans hk12)).ext hx13 (by intros; (try simp only []); omega) (by intros; (try simp only []); omega)), by dsimp only; have e := hM13; rw [List.set_append_right _ _ (Nat.le_refl _), Nat.sub_self] at e; exact e, ((((((((hkm.trans hk6).trans hk7).step hx8 (by intros; (try simp only [] at *); omega)).step hx9 (by intros; (try simp only [] at *); omega)).trans hk10).trans hk11).trans hk12).step hx13 (by intros; (try simp only [] at *); omega)), by omega⟩ (by dsimp only; rw [hset]; omega)
        · refine X.skip ?_
          refine X.seq ?_
          refine X.seq ?_
          refine X.region ?_
          refine X.opw X.wN rfl (X.move (v := .bool true) rfl) ?_
          refine X.opw X.wN rfl (X.move (v := .bool true) rfl) ?_
          refine X.opw (X.wG rfl rfl rfl) rfl (X.move rfl) ?_
          refine X.opw (X.wG rfl rfl rfl) rfl (X.move (v := .int .i64 _) rfl) ?_
          refine X.opw (X.wG rfl rfl rfl) rfl (X.idxS (((hs5.keep ((hk6.trans hk7).step hx8 (by intros; (try simp only [] at *); omega))).ext hx9 (by intros; (try simp only []); omega)).keep (hk10.trans hk11)) Try.underlying64 Try.sizeOf70 rfl rfl ⟨by omega, by omega⟩) ?_
          refine X.opw (X.wG rfl rfl rfl) rfl (X.fldA Try.underlying70 rfl rfl Try.sizeOf2) ?_
          refine X.opw (X.wG rfl rfl rfl) rfl (X.loadSf Try.isAgg2 (((hs5.keep ((hk6.trans hk7).step hx8 (by intros; (try simp only [] at *); omega))).ext hx9 (by intros; (try simp only []); omega)).keep (hk10.trans hk11)) hlast rfl (fun _ h => by rw [h.1]; rfl)) ?_
          refine X.opP (X.wG rfl rfl rfl) rfl rfl (X.eqI rfl rfl) (fun h123 => ?_) (fun h123 => ?_)
          · refine X.opw X.wN rfl (X.pickT (v := .bool true) rfl rfl) ?_
            refine X.opsEnd ?_
            refine X.condT rfl ?_
            refine X.region ?_
            refine X.opw X.wN rfl (X.move rfl) ?_
            refine X.opw X.wN rfl (X.move (v := .int .i64 _) rfl) ?_
            refine X.opw X.wN rfl (X.cutHr Try.underlying64 Try.sizeOf70 rfl rfl (by omega)) ?_
            refine X.opw X.wN rfl (X.assign rfl) ?_
            refine X.opsEnd ?_
            refine X.seq ?_
            refine X.region ?_
            refine X.opw X.wN rfl (X.move rfl) ?_
            refine X.opw X.wN rfl (X.loadNB Try.isAgg70 Try.sizeOf70 ((hB8.ext hx9 (by intros; (try simp only []); omega)).keep (hk10.trans hk11)) rfl rfl rfl) ?_
            refine X.opE X.wN rfl (X.litKF KCt_flat (K := KCt) (xs := [Operand.tmp 129]) (vs := [evC y]) (ys := [y]) Try.underlying64 Try.sizeOf70 Try.zeroValue70 rfl rfl rfl rfl rfl (repsC y)) ?_
            rintro _ w14 ⟨rfl, hs14, hB14, hk14, hz14⟩
            refine X.opE X.wN rfl (X.appE (K := KCt) (S := fun k => w.heap.size < k) KCt_flat Try.underlying64 ECt rfl rfl ((Mine.take (((hM0m.keep ((hk6.trans hk7).step hx8 (by intros; (try simp only [] at *); omega))).ext hx9 (by intros; (try simp only []); omega) (by intros; (try simp only []); omega)).keep (hk10.trans hk11)) o.length (by omega)).keep hk14) hs14 (by (try simp only [List.length_append, List.length_cons, List.length_nil, List.length_take, List.length_drop, List.length_map, List.length_range]); omega) (by intros; (try simp only [] at *); omega)) ?_
            rintro v15 w15 ⟨hM15, hx15⟩
            have hx15' := hx15.size
            refine X.opw X.wN rfl (X.assign rfl) ?_
            refine X.opsEnd ?_
            refine X.region ?_
            refine X.opw X.wN rfl (X.assign rfl) ?_
            refine X.opsEnd ?_
            refine X.inBlock ?_
            refine hback (ats.set b (ab + 1), _, o ++ [y], true) _ _ ⟨rfl, rfl, rfl, rfl, trivial⟩ ⟨by dsimp only; rw [List.length_set]; exact hal, by dsimp only; rw [hset]; simp only [List.length_append, List.length_singleton] at *; omega, .inr ⟨rfl, o, y, rfl, by dsimp only; rw [hset, ← hoo, hmg, sumC_ne (show eqC B0 w0 x y = false from hc), if_neg (by simpa using h123)]; rfl⟩, fun z hz => (List.mem_append.1 hz).elim (fun h => hoz z (List.mem_append_left _ h)) (fun h => by rw [List.mem_singleton.1 h]; exact hyok), ((hM9.keep ((hk10.trans hk11).trans hk14)).ext hx15 (by intros; (try simp only []); omega) (by intros; (try simp only []); omega)), by dsimp only; have e := hM15; rw [List.take_left] at e; exact e, ((((((((hkm.trans hk6).trans hk7).step hx8 (by intros; (try simp only [] at *); omega)).step hx9 (by intros; (try simp only [] at *); omega)).trans hk10).trans hk11).trans hk14).step hx15 (by intros; (try simp only [] at *); omega)), by omega⟩ (by dsimp only; rw [hset]; omega)
          · refine X.opw X.wN rfl (X.pickT (v := .bool false) rfl rfl) ?_
            refine X.opsEnd ?_
            refine X.condF rfl ?_
            refine X.skip ?_
            refine X.seq ?_
            refine X.region ?_
            refine X.opw X.wN rfl (X.move rfl) ?_
            refine X.opw X.wN rfl (X.loadNB Try.isAgg70 Try.sizeOf70 ((hB8.ext hx9 (by intros; (try simp only []); omega)).keep (hk10.trans hk11)) rfl rfl rfl) ?_
            refine X.opE X.wN rfl (X.litKF KCt_flat (K := KCt) (xs := [Operand.tmp 129]) (vs := [evC y]) (ys := [y]) Try.underlying64 Try.sizeOf70 Try.zeroValue70 rfl rfl rfl rfl rfl (repsC y)) ?_
            rintro _ w16 ⟨rfl, hs16, hB16, hk16, hz16⟩
            refine X.opE X.wN rfl (X.appE (K := KCt) (S := fun k => w.heap.size < k) KCt_flat Try.underlying64 ECt rfl rfl (((hM0m.keep ((hk6.trans hk7).step hx8 (by intros; (try simp only [] at *); omega))).ext hx9 (by intros; (try simp only []); omega) (by intros; (try simp only []); omega)).keep ((hk10.trans hk11).trans hk16)) hs16 (by (try simp only [List.length_append, List.length_cons, List.length_nil, List.length_take, List.length_drop, List.length_map, List.length_range]); omega) (by intros; (try simp only [] at *); omega)) ?_
            rintro v17 w17 ⟨hM17, hx17⟩
            have hx17' := hx17.size
            refine X.opw X.wN rfl (X.assign rfl) ?_
            refine X.opsEnd ?_
            refine X.region ?_
            refine X.opw X.wN rfl (X.assign rfl) ?_
            refine X.opsEnd ?_
            refine X.inBlock ?_
            refine hback (ats.set b (ab + 1), _, (o ++ [x]) ++ [y], true) _ _ ⟨rfl, rfl, rfl, rfl, trivial⟩ ⟨by dsimp only; rw [List.length_set]; exact hal, by dsimp only; rw [hset]; simp only [List.length_append, List.length_singleton] at *; omega, .inr ⟨rfl, o ++ [x], y, rfl, by dsimp only; rw [hset, ← hoo, hmg, sumC_ne (show eqC B0 w0 x y = false from hc), if_pos (by simpa using h123), List.append_assoc]⟩, fun z hz => (List.mem_append.1 hz).elim (fun h => hoz z h) (fun h => by rw [List.mem_singleton.1 h]; exact hyok), ((hM9.keep ((hk10.trans hk11).trans hk16)).ext hx17 (by intros; (try simp only []); omega) (by intros; (try simp only []); omega)), hM17, ((((((((hkm.trans hk6).trans hk7).step hx8 (by intros; (try simp only [] at *); omega)).step hx9 (by intros; (try simp only [] at *); omega)).trans hk10).trans hk11).trans hk16).step hx17 (by intros; (try simp only [] at *); omega)), by omega⟩ (by dsimp only; rw [hset]; omega)
      · subst h93
        obtain ⟨_, rfl, hoo⟩ := ho.resolve_right (fun h => by cases h.1)
        refine X.dTakeS 2 rfl (by kernel_rfl) (by kernel_rfl) (by kernel_rfl) rfl rfl rfl rfl ?_
        refine X.dTakeS 3 rfl (by kernel_rfl) (by kernel_rfl) (by kernel_rfl) rfl rfl rfl rfl ?_
        refine X.dTakeS 4 rfl (by kernel_rfl) (by kernel_rfl) (by kernel_rfl) rfl rfl rfl rfl ?_
        refine X.dTakeS 5 rfl (by kernel_rfl) (by kernel_rfl) (by kernel_rfl) rfl rfl rfl rfl ?_
        refine X.dTakeS 6 rfl (by kernel_rfl) (by kernel_rfl) (by kernel_rfl) rfl rfl rfl rfl ?_
        refine X.dSkip (i := 7) (by kernel_rfl) rfl rfl rfl rfl rfl ?_
        refine X.dSkip (i := 8) (by kernel_rfl) rfl rfl rfl rfl rfl ?_
        refine X.dSkip (i := 9) (by kernel_rfl) rfl rfl rfl rfl rfl ?_
        refine X.dSkip (i := 10) (by kernel_rfl) rfl rfl rfl rfl rfl ?_
        refine X.dTake 11 rfl (by kernel_rfl) (by kernel_rfl) (by kernel_rfl) (X.dwN rfl) (fun w' hk' => X.pickF (v := .bool false) rfl rfl) ?_
        refine X.dEnd (by kernel_rfl) ?_
        refine X.condF rfl ?_
        refine X.skip ?_
        refine X.seq ?_
        refine X.seq ?_
        refine X.region ?_
        refine X.opw X.wN rfl (X.move (v := .bool false) rfl) ?_
        refine X.opw X.wN rfl (X.move (v := .bool false) rfl) ?_
        refine X.opS rfl rfl rfl rfl rfl ?_
        refine X.opS rfl rfl rfl rfl rfl ?_
        refine X.opS rfl rfl rfl rfl rfl ?_
        refine X.opS rfl rfl rfl rfl rfl ?_
        refine X.opS rfl rfl rfl rfl rfl ?_
        refine X.opS rfl rfl rfl rfl rfl ?_
        refine X.opw X.wN rfl (X.pickF (v := .bool false) rfl rfl) ?_
        refine X.opsEnd ?_
        refine X.condF rfl ?_
        refine X.skip ?_
        refine X.seq ?_
        refine X.region ?_
        refine X.opw X.wN rfl (X.move rfl) ?_
        refine X.opw X.wN rfl (X.loadNB Try.isAgg70 Try.sizeOf70 ((hB8.ext hx9 (by intros; (try simp only []); omega)).keep hk10) rfl rfl rfl) ?_
        refine X.opE X.wN rfl (X.litKF KCt_flat (K := KCt) (xs := [Operand.tmp 129]) (vs := [evC y]) (ys := [y]) Try.underlying64 Try.sizeOf70 Try.zeroValue70 rfl rfl rfl rfl rfl (repsC y)) ?_
        rintro _ w18 ⟨rfl, hs18, hB18, hk18, hz18⟩
        refine X.opE X.wN rfl (X.appE (K := KCt) (S := fun k => w.heap.size < k) KCt_flat Try.underlying64 ECt rfl rfl (((hM0m.keep ((hk6.trans hk7).step hx8 (by intros; (try simp only [] at *); omega))).ext hx9 (by intros; (try simp only []); omega) (by intros; (try simp only []); omega)).keep (hk10.trans hk18)) hs18 (by (try simp only [List.length_append, List.length_cons, List.length_nil, List.length_take, List.length_drop, List.length_map, List.length_range]); omega) (by intros; (try simp only [] at *); omega)) ?_
        rintro v19 w19 ⟨hM19, hx19⟩
        have hx19' := hx19.size
        refine X.opw X.wN rfl (X.assign rfl) ?_
        refine X.opsEnd ?_
        refine X.region ?_
        refine X.opw X.wN rfl (X.assign rfl) ?_
        refine X.opsEnd ?_
        refine X.inBlock ?_
        refine hback (ats.set b (ab + 1), _, [] ++ [y], true) _ _ ⟨rfl, rfl, rfl, rfl, trivial⟩ ⟨by dsimp only; rw [List.length_set]; exact hal, by dsimp only; rw [hset]; simp only [List.length_append, List.length_singleton, List.length_nil] at *; omega, .inr ⟨rfl, [], y, rfl, by dsimp only; rw [hset, ← hoo, hmg]; rfl⟩, fun z hz => by rw [List.mem_singleton.1 hz]; exact hyok, ((hM9.keep (hk10.trans hk18)).ext hx19 (by intros; (try simp only []); omega) (by intros; (try simp only []); omega)), hM19, (((((((hkm.trans hk6).trans hk7).step hx8 (by intros; (try simp only [] at *); omega)).step hx9 (by intros; (try simp only [] at *); omega)).trans hk10).trans hk18).step hx19 (by intros; (try simp only [] at *); omega)), by omega⟩ (by dsimp only; rw [hset]; omega)
end Go.Proofs.Ytgfficbkajcdpaa

namespace Go.Proofs.Ytgfficbkajcdpaa
open Go Go.Proofs.Ytgfficbkajcdpaa.X
set_option linter.unusedVariables false
set_option linter.unusedSimpArgs false
theorem opens_V {H : Type} {enc : TypeId × Value → H} {W : World} : Opens enc Try.prog W 102 KV := fun fuel cs x h => by
  obtain ⟨y, a, b, e, ⟨ha, oa⟩, p, q, e2, ⟨hb, ob⟩, hq, oq⟩ := opens_struct3 (K := KI) (L := KI) (M := KS) Try.underlying102 (by kernel_rfl) ⟨rfl, by kernel_rfl⟩ ⟨rfl, by kernel_rfl⟩ ⟨rfl, by kernel_rfl⟩ (opens_i64 Try.underlying100) (opens_i64 Try.underlying2) (opens_string Try.underlying9) fuel cs x h
  subst e ha e2 hb hq
  exact ⟨y, rfl, oa, ob, oq⟩
theorem list_choose {α β : Type} : ∀ {l : List α} {Q : Nat → α → β → Prop}, (∀ j x, l[j]? = some x → ∃ y, Q j x y) → ∃ l' : List β, l'.length = l.length ∧ ∀ j x, l[j]? = some x → ∃ y, l'[j]? = some y ∧ Q j x y
  | [], _, _ => ⟨[], rfl, fun j x h => by simp at h⟩
  | a :: l, Q, h => by
    obtain ⟨b, hb⟩ := h 0 a rfl
    obtain ⟨l', h1, h2⟩ := list_choose (l := l) (Q := fun j x y => Q (j + 1) x y) (fun j x hx => h (j + 1) x (by simpa using hx))
    refine ⟨b :: l', by simp [h1], fun j x hx => ?_⟩
    cases j with
    | zero => simp at hx; subst hx; exact ⟨b, rfl, hb⟩
    | succ j => simp at hx; obtain ⟨y, g1, g2⟩ := h2 j x hx; exact ⟨y, by simpa using g1, g2⟩
end Go.Proofs.Ytgfficbkajcdpaa

namespace Go.Proofs.Ytgfficbkajcdpaa
open Go Go.Proofs.Ytgfficbkajcdpaa.X
set_option linter.unusedVariables false
set_option linter.unusedSimpArgs false
-- f55 "pedigree/merge.Only[pedigree/pedigreeref09.Thing]$1" params [] results [29, 4] -> [(ResultVar.cell 2 2
set_option maxHeartbeats 4000000 in
set_option maxRecDepth 100000 in
theorem Only1_c (q : TH → Bool) (PW : World → Prop) {B c3 c2 : Nat} {Tc : Nat → Prop} {xs0 : List TH} {pv p : Value} (w : World) (hbl : Blk w c3 [.iface 84 p] 33 ∧ Blk w c2 [pv] 46) (hC : Cur Try.prog evT (0, 0) NX B Tc p xs0 w) (hP0 : PW w) (hBs : B ≤ w.heap.size) (hsep : ∀ k, Tc k → B ≤ k ∧ k ≠ c3 ∧ k ≠ c2 ∧ k < w.heap.size) (hPW : ∀ w w', PW w → Ext (fun k => B ≤ k) w w' → PW w')
    (hpr : ∀ (x : TH) (wa : World), PW wa → YC Try.prog pv [evT x] wa fun r wb => r = .bool (q x) ∧ Keep wa wb) :
    Ret Try.prog 55 #[.pointer (some ⟨c3, 0, none⟩), .pointer (some ⟨c2, 0, none⟩)] w fun r w' => r = hdV evT (0, 0) (xs0.filter q) ∧ Ext Tc w w' ∧ (xs0.filter q ≠ [] → ∃ xs, (xs0.filter q).tail = xs.filter q ∧ Cur Try.prog evT (0, 0) NX B Tc p xs w' ∧ (Blk w' c3 [.iface 84 p] 33 ∧ Blk w' c2 [pv] 46) ∧ PW w') := by
  obtain ⟨h3, h2⟩ := hbl
  have h3l := h3.lt
  have h2l := h2.lt
  refine X.enter Try.func55 rfl Try.ntmps55 rfl ?_
  refine X.seq ?_
  refine X.region ?_
  refine X.opE X.wN rfl (X.allocE Try.zeroValue29 rfl) ?_
  rintro _ w1 ⟨rfl, hB1, hk1, hz1⟩
  refine X.opw X.wN rfl (X.assign rfl) ?_
  refine X.opsEnd ?_
  refine X.block ?_
  -- LOOP live: 0, 1, 2=x
  refine X.loopL (σ := TH × List TH) (fun s => [(0, .pointer (some ⟨c3, 0, none⟩)), (1, .pointer (some ⟨c2, 0, none⟩)), (2, .pointer (some ⟨w.heap.size, 0, none⟩))]) (fun s w' => s.2.filter q = xs0.filter q ∧ (Blk w' c3 [.iface 84 p] 33 ∧ Blk w' c2 [pv] 46) ∧ Blk w' w.heap.size [.int .i8 s.1.1, .int .i64 s.1.2] 29 ∧ Cur Try.prog evT (0, 0) NX B Tc p s.2 w' ∧ PW w' ∧ Ext Tc w w' ∧ w.heap.size < w'.heap.size) (fun s => s.2.length) ((0, 0), xs0) ⟨rfl, rfl, rfl, trivial⟩ ⟨rfl, ⟨(h3.keep hk1), (h2.keep hk1)⟩, hB1, hC.keep hk1, hPW _ _ hP0 (hk1.mono fun _ _ h => h.elim), hk1.mono (fun _ _ h => h.elim), by omega⟩ ?_
  rintro ⟨z, xs⟩ b0 wl ⟨hol, ⟨hBa, hBb⟩, hBz, hCc, hP, hE, hwl⟩ hback
  dsimp only
  simp only at hol hBz hCc
  refine X.block ?_
  refine X.seq ?_
  refine X.region ?_
  refine X.opw X.wN rfl (X.load1B Try.isAgg33 hBa rfl rfl) ?_
  refine X.opE X.wN rfl (X.invokeE rfl (next_m _) hCc.next Try.call98) ?_
  rintro _ w2 ⟨rfl, hx2, hC2⟩
  have hx2' := hx2.size
  refine X.opw X.wN rfl (X.move rfl) ?_
  refine X.opw X.wN rfl (X.extr rfl rfl) ?_
  refine X.opw X.wN rfl (X.extr rfl rfl) ?_
  refine X.opE X.wN rfl (X.storeNE Try.sizeOf29 (hBz.ext hx2 (by intro h; have := hsep _ h; omega)) rfl rfl rfl rfl (fun u hu => by simp at hu; rcases hu with rfl | rfl <;> rfl)) ?_
  rintro _ w3 ⟨hB3, hx3, hz3⟩
  refine X.opw X.wN rfl (X.assign (v := .bool _) rfl) ?_
  refine X.opsEnd ?_
  refine X.seq ?_
  refine X.region ?_
  refine X.opw X.wN rfl (X.move (v := .bool _) rfl) ?_
  refine X.opw X.wN rfl (X.not_ rfl) ?_
  refine X.opw X.wN rfl (X.move (v := .bool _) rfl) ?_
  refine X.forkO 11 rfl (fun h11 => ?_) (fun h11 => ?_)
  · obtain rfl : xs = [] := by simpa using h11
    refine X.opS rfl rfl rfl rfl rfl ?_
    refine X.opS rfl rfl rfl rfl rfl ?_
    refine X.opS rfl rfl rfl rfl rfl ?_
    refine X.opw X.wN rfl (X.pickT (v := .bool true) rfl rfl) ?_
    refine X.opsEnd ?_
    refine X.condT rfl ?_
    refine X.seq ?_
    refine X.region ?_
    refine X.opw X.wN rfl (X.loadNB Try.isAgg29 Try.sizeOf29 hB3 rfl rfl rfl) ?_
    refine X.opw X.wN rfl (X.move (v := .bool _) rfl) ?_
    refine X.opE X.wN rfl (X.storeNE Try.sizeOf29 hB3 rfl rfl rfl rfl (fun u hu => by simp at hu; rcases hu with rfl | rfl <;> rfl)) ?_
    rintro _ w4 ⟨hB4, hx4, hz4⟩
    refine X.opw X.wN rfl (X.assign (v := .bool _) rfl) ?_
    refine X.opsEnd ?_
    refine X.ret_unw (X.unwR2 Try.func55 Try.results55 (X.ResOk.cell rfl (X.lvN Try.isAgg29 Try.sizeOf29 hB4 rfl)) (show X.ResOk _ _ _ (.tmp 3) (.bool _) from rfl) ?_)
    rw [← hol]
    exact ⟨rfl, (Ext.andThen (Ext.andThen (Ext.andThen hE hx2 (by intro k h1 h2; first | exact (h2 : False).elim | exact h2 | (exfalso; (try simp only [] at *); omega))) hx3 (by intro k h1 h2; first | exact (h2 : False).elim | exact h2 | (exfalso; (try simp only [] at *); omega))) hx4 (by intro k h1 h2; first | exact (h2 : False).elim | exact h2 | (exfalso; (try simp only [] at *); omega))), fun h => absurd rfl h⟩
  · obtain ⟨x, xs', rfl⟩ : ∃ x xs', xs = x :: xs' := by
      cases xs with
      | nil => simp at h11
      | cons x xs' => exact ⟨x, xs', rfl⟩
    refine X.opw (X.wG rfl rfl rfl) rfl (X.load1B Try.isAgg46 ((hBb.ext hx2 (by intro h; have := hsep _ h; omega)).ext hx3 (by first | (intros; (try simp only []); omega) | (intro h; have := hsep _ h; omega))) rfl rfl) ?_
    refine X.opw (X.wG rfl rfl rfl) rfl (X.loadNB Try.isAgg29 Try.sizeOf29 hB3 rfl rfl rfl) ?_
    refine X.opE (X.wG rfl rfl rfl) rfl ((hpr x _ (hPW _ _ hP (Ext.andThen (Ext.andThen (Ext.refl (fun k => B ≤ k) _) hx2 (by intro k h1 h2; first | exact (h2 : False).elim | exact (hsep k h2).1 | (have := hsep k h2; omega) | ((try simp only [] at *); omega))) hx3 (by intro k h1 h2; first | exact (h2 : False).elim | exact (hsep k h2).1 | (have := hsep k h2; omega) | ((try simp only [] at *); omega))))) _ _ _ _ _ _ _ _ _ rfl rfl) ?_
    rintro _ w5 ⟨rfl, hk5⟩
    have hk5' := hk5.size
    refine X.opw X.wN rfl (X.pickF (v := .bool _) rfl rfl) ?_
    refine X.opsEnd ?_
    refine X.condB rfl (fun hc => ?_) (fun hc => ?_)
    · have hq : q x = true := hc
      refine X.seq ?_
      refine X.region ?_
      refine X.opw X.wN rfl (X.loadNB Try.isAgg29 Try.sizeOf29 (hB3.keep hk5) rfl rfl rfl) ?_
      refine X.opw X.wN rfl (X.move (v := .bool _) rfl) ?_
      refine X.opE X.wN rfl (X.storeNE Try.sizeOf29 (hB3.keep hk5) rfl rfl rfl rfl (fun u hu => by simp at hu; rcases hu with rfl | rfl <;> rfl)) ?_
      rintro _ w6 ⟨hB6, hx6, hz6⟩
      refine X.opw X.wN rfl (X.assign (v := .bool _) rfl) ?_
      refine X.opsEnd ?_
      refine X.ret_unw (X.unwR2 Try.func55 Try.results55 (X.ResOk.cell rfl (X.lvN Try.isAgg29 Try.sizeOf29 hB6 rfl)) (show X.ResOk _ _ _ (.tmp 3) (.bool _) from rfl) ?_)
      rw [← hol, List.filter_cons, if_pos hq]
      exact ⟨rfl, (Ext.andThen (Ext.andThen (Ext.andThen (Ext.andThen hE hx2 (by intro k h1 h2; first | exact (h2 : False).elim | exact h2 | (exfalso; (try simp only [] at *); omega))) hx3 (by intro k h1 h2; first | exact (h2 : False).elim | exact h2 | (exfalso; (try simp only [] at *); omega))) hk5 (by intro k h1 h2; first | exact (h2 : False).elim | exact h2 | (exfalso; (try simp only [] at *); omega))) hx6 (by intro k h1 h2; first | exact (h2 : False).elim | exact h2 | (exfalso; (try simp only [] at *); omega))), fun _ => ⟨xs', rfl, (((hC2.ext hx3 (by intro k hk hk2; refine ⟨?_, fun ht => ?_⟩ <;> ((try simp only [] at *); first | omega | (have := hsep k ht; omega)))).keep hk5).ext hx6 (by intro k hk hk2; refine ⟨?_, fun ht => ?_⟩ <;> ((try simp only [] at *); first | omega | (have := hsep k ht; omega)))), ⟨((((hBa.ext hx2 (by intro h; have := hsep _ h; omega)).ext hx3 (by first | (intros; (try simp only []); omega) | (intro h; have := hsep _ h; omega))).keep hk5).ext hx6 (by first | (intros; (try simp only []); omega) | (intro h; have := hsep _ h; omega))), ((((hBb.ext hx2 (by intro h; have := hsep _ h; omega)).ext hx3 (by first | (intros; (try simp only []); omega) | (intro h; have := hsep _ h; omega))).keep hk5).ext hx6 (by first | (intros; (try simp only []); omega) | (intro h; have := hsep _ h; omega)))⟩, (hPW _ _ hP (Ext.andThen (Ext.andThen (Ext.andThen (Ext.andThen (Ext.refl (fun k => B ≤ k) _) hx2 (by intro k h1 h2; first | exact (h2 : False).elim | exact (hsep k h2).1 | (have := hsep k h2; omega) | ((try simp only [] at *); omega))) hx3 (by intro k h1 h2; first | exact (h2 : False).elim | exact (hsep k h2).1 | (have := hsep k h2; omega) | ((try simp only [] at *); omega))) hk5 (by intro k h1 h2; first | exact (h2 : False).elim | exact (hsep k h2).1 | (have := hsep k h2; omega) | ((try simp only [] at *); omega))) hx6 (by intro k h1 h2; first | exact (h2 : False).elim | exact (hsep k h2).1 | (have := hsep k h2; omega) | ((try simp only [] at *); omega))))⟩⟩
    · have hq : ¬ q x = true := by simpa using hc
      refine X.skip ?_
      refine X.inBlock ?_
      refine hback (x, xs') _ _ ⟨rfl, rfl, rfl, trivial⟩ ⟨by rw [← hol, List.filter_cons, if_neg hq], ⟨(((hBa.ext hx2 (by intro h; have := hsep _ h; omega)).ext hx3 (by first | (intros; (try simp only []); omega) | (intro h; have := hsep _ h; omega))).keep hk5), (((hBb.ext hx2 (by intro h; have := hsep _ h; omega)).ext hx3 (by first | (intros; (try simp only []); omega) | (intro h; have := hsep _ h; omega))).keep hk5)⟩, (hB3.keep hk5), ((hC2.ext hx3 (by intro k hk hk2; refine ⟨?_, fun ht => ?_⟩ <;> ((try simp only [] at *); first | omega | (have := hsep k ht; omega)))).keep hk5), (hPW _ _ hP (Ext.andThen (Ext.andThen (Ext.andThen (Ext.refl (fun k => B ≤ k) _) hx2 (by intro k h1 h2; first | exact (h2 : False).elim | exact (hsep k h2).1 | (have := hsep k h2; omega) | ((try simp only [] at *); omega))) hx3 (by intro k h1 h2; first | exact (h2 : False).elim | exact (hsep k h2).1 | (have := hsep k h2; omega) | ((try simp only [] at *); omega))) hk5 (by intro k h1 h2; first | exact (h2 : False).elim | exact (hsep k h2).1 | (have := hsep k h2; omega) | ((try simp only [] at *); omega)))), (Ext.andThen (Ext.andThen (Ext.andThen hE hx2 (by intro k h1 h2; first | exact (h2 : False).elim | exact h2 | (exfalso; (try simp only [] at *); omega))) hx3 (by intro k h1 h2; first | exact (h2 : False).elim | exact h2 | (exfalso; (try simp only [] at *); omega))) hk5 (by intro k h1 h2; first | exact (h2 : False).elim | exact h2 | (exfalso; (try simp only [] at *); omega))), by omega⟩ (by simp)
theorem only_stp (q : TH → Bool) (PW : World → Prop) {B a b c3 c2 : Nat} {Tc : Nat → Prop} {xs0 : List TH} {pv p : Value} {w : World} (hbl : Blk w c3 [.iface 84 p] 33 ∧ Blk w c2 [pv] 46) (hC : Cur Try.prog evT (0, 0) NX B Tc p xs0 w) (hP0 : PW w) (hBa : B ≤ a) (hbw : b ≤ w.heap.size) (hT : ∀ k, Tc k → a ≤ k ∧ k < b) (h3 : a ≤ c3 ∧ c3 < b) (h2 : a ≤ c2 ∧ c2 < b)
    (hsep : ∀ k, Tc k → k ≠ c3 ∧ k ≠ c2) (hPW : ∀ w w', PW w → Ext (fun k => B ≤ k) w w' → PW w') (hpr : ∀ (x : TH) (wa : World), PW wa → YC Try.prog pv [evT x] wa fun r wb => r = .bool (q x) ∧ Keep wa wb) : Stp Try.prog evT (0, 0) B (fun k => a ≤ k ∧ k < b) (.func (.func 55) #[] #[ptrV c3, ptrV c2]) (xs0.filter q) w := by
  refine ⟨fun l w => ∃ xs0, l = xs0.filter q ∧ b ≤ w.heap.size ∧ (Blk w c3 [.iface 84 p] 33 ∧ Blk w c2 [pv] 46) ∧ Cur Try.prog evT (0, 0) NX B Tc p xs0 w ∧ PW w, ⟨xs0, rfl, hbw, hbl, hC, hP0⟩, ?_, ?_⟩
  · rintro l w w' ⟨xs, g1, g2, ⟨q3, q2⟩, g4, g5⟩ ha
    have hz := ha.size
    exact ⟨xs, g1, by omega, ⟨ha.blk q3 h3, ha.blk q2 h2⟩, g4.agree (ha.sub hT), hPW _ _ g5 (Ext.mono ha fun k _ h => h.1)⟩
  · rintro l w ⟨xs, rfl, g2, g3, g4, g5⟩
    refine YC.of_ret (args := []) (cap := [_, _]) ((Only1_c q PW w g3 g4 g5 (by omega) (fun k hk => by have := hsep k hk; have := hT k hk; omega) hPW hpr).mono ?_) Try.call55
    rintro r w' ⟨rfl, hx, hn'⟩
    have hz := hx.size
    refine ⟨rfl, hx.mono fun k _ hk => hT k hk, fun hne' => ?_⟩
    obtain ⟨xs', e1, e2, e3, e4⟩ := hn' hne'
    exact ⟨xs', e1, by omega, e3, e2, e4⟩
-- f33 "pedigree/merge.Only[pedigree/pedigreeref09.Thing]" params [46, 33] results [33] -> [(ResultVar.tmp 4)]
set_option maxHeartbeats 4000000 in
set_option maxRecDepth 100000 in
theorem Only_c (q : TH → Bool) (PW : World → Prop) {B a0 b0 : Nat} {p : Value} {l0 : List TH} {fn : Fn} {bs ca : Array Value} (w : World) (h0 : CV B (fun k => a0 ≤ k ∧ k < b0) (.iface 84 p) l0 w) (hP0 : PW w) (hB : B ≤ a0) (hab : a0 ≤ b0) (hb : b0 ≤ w.heap.size) (hPW : ∀ w w', PW w → Ext (fun k => B ≤ k) w w' → PW w') (hpr : ∀ (x : TH) (wa : World), PW wa → YC Try.prog (.func fn bs ca) [evT x] wa fun r wb => r = .bool (q x) ∧ Keep wa wb) :
    Ret Try.prog 33 #[.func fn bs ca, .iface 84 p] w fun r w' => (∃ p', r = .iface 84 p') ∧ CV B (fun k => a0 ≤ k ∧ k < w'.heap.size) r (l0.filter q) w' ∧ Keep w w' := by
  refine X.enter Try.func33 rfl Try.ntmps33 rfl ?_
  refine X.seq ?_
  refine X.region ?_
  refine X.opE X.wN rfl (X.boxE rfl rfl) ?_
  rintro _ w1 ⟨rfl, hB1, hk1, hz1⟩
  refine X.opE X.wN rfl (X.boxE rfl rfl) ?_
  rintro _ w2 ⟨rfl, hB2, hk2, hz2⟩
  refine X.opw X.wN rfl (X.assign rfl) ?_
  refine X.opsEnd ?_
  refine X.seq ?_
  refine X.seq ?_
  refine X.region ?_
  refine X.opw X.wN rfl (X.load1B Try.isAgg46 (hB1.keep hk2) rfl rfl) ?_
  refine X.opw X.wN rfl (X.eqFn1 Try.underlying46 rfl rfl) ?_
  refine X.opw X.wN rfl (X.move (v := .bool false) rfl) ?_
  refine X.opw (X.wG rfl rfl rfl) rfl (X.load1B Try.isAgg33 hB2 rfl rfl) ?_
  refine X.opw (X.wG rfl rfl rfl) rfl (X.eqIf1 Try.underlying33 rfl rfl) ?_
  refine X.opw X.wN rfl (X.pickF (v := .bool false) rfl rfl) ?_
  refine X.opsEnd ?_
  refine X.condF rfl ?_
  refine X.skip ?_
  refine X.seq ?_
  refine X.region ?_
  refine X.opw X.wN rfl (X.mkFunc rfl) ?_
  refine X.opw X.wN rfl (X.buildB (vs := [(0, .func (.func 55) #[] #[ptrV (w1.heap.size), ptrV (w.heap.size)])]) (cs := #[.func (.func 55) #[] #[ptrV (w1.heap.size), ptrV (w.heap.size)], .bool false]) rfl (by kernel_rfl)) ?_
  refine X.opE X.wN rfl (X.boxE rfl rfl) ?_
  rintro _ w3 ⟨rfl, hB3, hk3, hz3⟩
  refine X.opw X.wN rfl (X.mkIface Try.underlying84 rfl rfl) ?_
  refine X.opw X.wN rfl (X.assign rfl) ?_
  refine X.opsEnd ?_
  refine X.ret1 Try.func33 Try.results33 rfl ?_
  refine ⟨⟨_, rfl⟩, ?_, ((hk1.trans hk2).trans hk3)⟩
  exact CV.wide (cur_made (a := a0) (b := w2.heap.size) (only_stp q PW (Tc := fun k => a0 ≤ k ∧ k < b0) ⟨(hB2.keep hk3), (hB1.keep (hk2.trans hk3))⟩ (CV.cur (h0.keep ((hk1.trans hk2).trans hk3))) (hPW _ _ hP0 (((hk1.trans hk2).trans hk3).mono fun _ _ h => h.elim)) hB (by omega) (fun k hk => by omega) (by omega) (by omega) (fun k hk => by (try simp only [] at *); omega) hPW hpr) hB3 (by omega) (Nat.le_refl _) (by omega)) (fun k hk => by omega)
end Go.Proofs.Ytgfficbkajcdpaa

namespace Go.Proofs.Ytgfficbkajcdpaa
open Go Go.Proofs.Ytgfficbkajcdpaa.X
set_option linter.unusedVariables false
set_option linter.unusedSimpArgs false
def L3 (l : List TH) : Nat → List TH
  | 1 => l
  | _ => []
theorem mg_L3 (l : List TH) : mgC 3 (L3 l) = l := mg_one (i := 1) _ 3 (L3 l) rfl (by omega) (fun j hj hne => by
  match j, hj, hne with
  | 0, _, _ => rfl
  | 1, _, h => exact absurd rfl h
  | 2, _, _ => rfl)
theorem MergeN3_c {B a0 b0 lo hi c : Nat} {y : Value} {l : List TH} {fn : Fn} {bs ca : Array Value} {A : Option Addr} (w : World) (hs : Sl KR1 lo hi w A 3 [.nilIface, y, .nilIface]) (h0 : CV B (fun k => a0 ≤ k ∧ k < b0) y l w) (hB : B ≤ a0) (hab : a0 ≤ b0) (hb : b0 ≤ w.heap.size)
    (hcmp : ∀ (x y : TH) (wa : World), YC Try.prog (.func fn bs ca) [evT x, evT y] wa fun r wb => ∃ nc, r = .int .i64 nc ∧ (nc < 0 ↔ x.1 < y.1) ∧ Keep wa wb) : Ret Try.prog 16 #[.func fn bs ca, .slice A 3 c] w fun r w' => (∃ p, r = .iface 84 p) ∧ CV B (fun k => a0 ≤ k ∧ k < w'.heap.size) r l w' ∧ Keep w w' := by
  have q := Merge_c (n := 3) (L := L3 l) (Tj := fun j k => j = 1 ∧ a0 ≤ k ∧ k < b0) (c := c) w hs (by omega) hB (by omega) (fun j hj k hk => by omega) (fun i j hi hj hne k h1 h2 => by omega) ?_ hcmp
  · rw [mg_L3] at q; exact q
  · intro j y hy
    match j, hy with
    | 0, hy => cases hy; exact .inl ⟨rfl, rfl⟩
    | 1, hy => cases hy; exact h0.wide fun k hk => ⟨rfl, hk⟩
    | 2, hy => cases hy; exact .inl ⟨rfl, rfl⟩
    | n + 3, hy => simp at hy
theorem heldL_nil : ∀ l : List TH, heldL false l [] = l
  | [] => rfl
  | x :: l => by rw [heldL, if_pos (by rfl), show skipT x [] = [] from rfl, heldL_nil l]
theorem repsN {w : World} {U : TypeId} {p : Option Addr} : RepsV KR1 w [.nilIface, .iface U (.pointer p), .nilIface] [.nilIface, .iface U (.pointer p), .nilIface] := ⟨⟨_, rfl, rfl, rfl⟩, ⟨_, rfl, rfl, rfl⟩, ⟨_, rfl, rfl, rfl⟩, trivial⟩
theorem CVC.cur {B : Nat} {T : Nat → Prop} {p : Value} {xs : List CT} {w : World} (h : CVC B T (.iface 108 p) xs w) : Cur Try.prog evC zC NXC B T p xs w := by
  rcases h with ⟨h, _⟩ | ⟨p', h, h2⟩
  · cases h
  · cases h; exact h2
-- f11 "pedigree/pedigreelaw09.MergeNone" params [24] results [4] -> [(ResultVar.tmp 2)] nfree 0 ntmps 124 nam
set_option maxHeartbeats 4000000 in
set_option maxRecDepth 100000 in
theorem MergeNone_c (w : World) (A1 : Option Addr) (n1 c1 : Nat) (l1 : List TH) (hc1 : n1 ≤ c1) (s1 : Sl (Kd.pair (KN .i8) KI) 0 w.heap.size w A1 n1 l1) :
    Ret Try.prog 11 #[.slice A1 n1 c1] w fun r w' => r = .bool true ∧ Keep w w' := by
  have hsx := sl_things s1
  have hLH : heldL false (l1.take 30) [] = l1.take 30 := heldL_nil _
  refine X.enter Try.func11 rfl Try.ntmps11 rfl ?_
  refine X.seq ?_
  refine X.region ?_
  refine X.opw X.wN rfl (X.assign rfl) ?_
  refine X.opsEnd ?_
  refine X.seq ?_
  refine X.region ?_
  refine X.opw X.wN rfl (X.move (v := .slice _ _ _) rfl) ?_
  refine X.opE X.wN rfl (X.callE (short_c _ hsx (by omega)) Try.call19 rfl rfl) ?_
  rintro _ w1 ⟨mq, rfl, hmc, hm3, hsq, hk1⟩
  have hk1' := hk1.size
  refine X.opw X.wN rfl (X.assign (v := .slice _ _ _) rfl) ?_
  refine X.opsEnd ?_
  refine X.seq ?_
  refine X.region ?_
  refine X.opw X.wN rfl (X.assign rfl) ?_
  refine X.opsEnd ?_
  refine X.seq ?_
  refine X.region ?_
  refine X.opw X.wN rfl (X.move rfl) ?_
  refine X.opw X.wN rfl (X.move (v := .slice _ _ _) rfl) ?_
  refine X.opE X.wN rfl (X.callE (Of_c w.heap.size _ hsq (by omega) (by omega)) Try.call20 rfl rfl) ?_
  rintro _ w2 ⟨bm2, rfl, hC2, hk2⟩
  have hk2' := hk2.size
  refine X.opw X.wN rfl (X.move rfl) ?_
  refine X.opE X.wN rfl (X.litKF KR1_flat (K := KR1) (xs := [Operand.tmp 21, Operand.tmp 23, Operand.tmp 24]) (vs := [.nilIface, .iface 84 (.pointer (some ⟨bm2, 0, none⟩)), .nilIface]) (ys := [.nilIface, .iface 84 (.pointer (some ⟨bm2, 0, none⟩)), .nilIface]) Try.underlying36 Try.sizeOf33 Try.zeroValue33 rfl rfl rfl rfl rfl repsN) ?_
  rintro _ w3 ⟨rfl, hs3, hB3, hk3, hz3⟩
  refine X.opE X.wN rfl (X.callE (MergeN3_c _ hs3 (hC2.keep hk3) (by omega) (by omega) (by omega) cmp17) Try.call16 rfl rfl) ?_
  rintro _ w4 ⟨⟨p4, rfl⟩, hC4, hk4⟩
  have hk4' := hk4.size
  refine X.opE X.wN rfl (X.callE (rest_b _ (CV.cur hC4) (by omega) (fun k hk => by (try simp only [] at *); omega) (take_lt _)) Try.call15 rfl rfl) ?_
  rintro _ w5 ⟨v5, rfl, hM5, hx5⟩
  have hx5' := hx5.size
  refine X.opw X.wN rfl (X.move rfl) ?_
  refine X.opw X.wN rfl (X.extr rfl rfl) ?_
  refine X.opw X.wN rfl (X.extr rfl rfl) ?_
  refine X.opw X.wN rfl (X.assign rfl) ?_
  refine X.opw X.wN rfl (X.assign (v := .bool _) rfl) ?_
  refine X.opsEnd ?_
  refine X.seq ?_
  refine X.region ?_
  refine X.opw X.wN rfl (X.move (v := .slice _ _ _) rfl) ?_
  refine X.opE X.wN rfl (X.callE (Of_c w.heap.size _ ((hsq.keep ((hk2.trans hk3).trans hk4)).ext hx5 (by intros; (try simp only []); omega)) (by omega) (by omega)) Try.call20 rfl rfl) ?_
  rintro _ w6 ⟨bm6, rfl, hC6, hk6⟩
  have hk6' := hk6.size
  refine X.opE X.wN rfl (X.callE (OnceN_c w.heap.size _ _ (by omega)) Try.call26 rfl rfl) ?_
  rintro _ w7 ⟨⟨p7, rfl⟩, hC7, hk7⟩
  have hk7' := hk7.size
  refine X.opE X.wN rfl (X.callE (rest_b _ (CV.cur hC7) (by omega) (fun k hk => by (try simp only [] at *); omega) (by simp)) Try.call15 rfl rfl) ?_
  rintro _ w8 ⟨v8, rfl, hM8, hx8⟩
  have hx8' := hx8.size
  refine X.opw X.wN rfl (X.move rfl) ?_
  refine X.opw X.wN rfl (X.extr rfl rfl) ?_
  refine X.opw X.wN rfl (X.extr rfl rfl) ?_
  refine X.opw X.wN rfl (X.assign rfl) ?_
  refine X.opw X.wN rfl (X.assign (v := .bool _) rfl) ?_
  refine X.opsEnd ?_
  refine X.seq ?_
  refine X.region ?_
  refine X.opw X.wN rfl (X.move rfl) ?_
  refine X.opw X.wN rfl (X.move (v := .slice _ _ _) rfl) ?_
  refine X.opE X.wN rfl (X.callE (Of_c w.heap.size _ ((((hsq.keep ((hk2.trans hk3).trans hk4)).ext hx5 (by intros; (try simp only []); omega)).keep (hk6.trans hk7)).ext hx8 (by intros; (try simp only []); omega)) (by omega) (by omega)) Try.call20 rfl rfl) ?_
  rintro _ w9 ⟨bm9, rfl, hC9, hk9⟩
  have hk9' := hk9.size
  refine X.opE X.wN rfl (X.callE (BothN_c w.heap.size _ (by omega)) Try.call28 rfl rfl) ?_
  rintro _ w10 ⟨⟨p10, rfl⟩, hC10, hk10⟩
  have hk10' := hk10.size
  refine X.opE X.wN rfl (X.callE (rest_b _ (CV.cur hC10) (by omega) (fun k hk => by (try simp only [] at *); omega) (by simp)) Try.call15 rfl rfl) ?_
  rintro _ w11 ⟨v11, rfl, hM11, hx11⟩
  have hx11' := hx11.size
  refine X.opw X.wN rfl (X.move rfl) ?_
  refine X.opw X.wN rfl (X.extr rfl rfl) ?_
  refine X.opw X.wN rfl (X.extr rfl rfl) ?_
  refine X.opw X.wN rfl (X.assign rfl) ?_
  refine X.opw X.wN rfl (X.assign (v := .bool _) rfl) ?_
  refine X.opsEnd ?_
  refine X.seq ?_
  refine X.region ?_
  refine X.opw X.wN rfl (X.move (v := .slice _ _ _) rfl) ?_
  refine X.opE X.wN rfl (X.callE (Of_c w.heap.size _ ((((((hsq.keep ((hk2.trans hk3).trans hk4)).ext hx5 (by intros; (try simp only []); omega)).keep (hk6.trans hk7)).ext hx8 (by intros; (try simp only []); omega)).keep (hk9.trans hk10)).ext hx11 (by intros; (try simp only []); omega)) (by omega) (by omega)) Try.call20 rfl rfl) ?_
  rintro _ w12 ⟨bm12, rfl, hC12, hk12⟩
  have hk12' := hk12.size
  refine X.opw X.wN rfl (X.move rfl) ?_
  refine X.opE X.wN rfl (X.callE (Less_c (l1 := []) (a1 := w12.heap.size) (b1 := w12.heap.size) _ hC12 (.inl ⟨rfl, rfl⟩) (by omega) (by omega) (by omega) (by omega) (by omega) cmpOk17) Try.call29 rfl rfl) ?_
  rintro _ w13 ⟨⟨p13, rfl⟩, hC13, hk13⟩
  have hk13' := hk13.size
  refine X.opE X.wN rfl (X.callE (rest_b _ (CV.cur hC13) (by omega) (fun k hk => by (try simp only [] at *); omega) (by rw [heldL_nil]; exact take_lt _)) Try.call15 rfl rfl) ?_
  rintro _ w14 ⟨v14, rfl, hM14, hx14⟩
  have hx14' := hx14.size
  refine X.opw X.wN rfl (X.move rfl) ?_
  refine X.opw X.wN rfl (X.extr rfl rfl) ?_
  refine X.opw X.wN rfl (X.extr rfl rfl) ?_
  refine X.opw X.wN rfl (X.assign rfl) ?_
  refine X.opw X.wN rfl (X.assign (v := .bool _) rfl) ?_
  refine X.opsEnd ?_
  refine X.seq ?_
  refine X.region ?_
  refine X.opw X.wN rfl (X.move (v := .slice _ _ _) rfl) ?_
  refine X.opE X.wN rfl (X.callE (Of_c w.heap.size _ ((((((((hsq.keep ((hk2.trans hk3).trans hk4)).ext hx5 (by intros; (try simp only []); omega)).keep (hk6.trans hk7)).ext hx8 (by intros; (try simp only []); omega)).keep (hk9.trans hk10)).ext hx11 (by intros; (try simp only []); omega)).keep (hk12.trans hk13)).ext hx14 (by intros; (try simp only []); omega)) (by omega) (by omega)) Try.call20 rfl rfl) ?_
  rintro _ w15 ⟨bm15, rfl, hC15, hk15⟩
  have hk15' := hk15.size
  refine X.opE X.wN rfl (X.callE (OnlyN_c w.heap.size _ _ (by omega)) Try.call33 rfl rfl) ?_
  rintro _ w16 ⟨⟨p16, rfl⟩, hC16, hk16⟩
  have hk16' := hk16.size
  refine X.opE X.wN rfl (X.callE (rest_b _ (CV.cur hC16) (by omega) (fun k hk => by (try simp only [] at *); omega) (by simp)) Try.call15 rfl rfl) ?_
  rintro _ w17 ⟨v17, rfl, hM17, hx17⟩
  have hx17' := hx17.size
  refine X.opw X.wN rfl (X.move rfl) ?_
  refine X.opw X.wN rfl (X.extr rfl rfl) ?_
  refine X.opw X.wN rfl (X.extr rfl rfl) ?_
  refine X.opw X.wN rfl (X.assign rfl) ?_
  refine X.opw X.wN rfl (X.assign (v := .bool _) rfl) ?_
  refine X.opsEnd ?_
  refine X.seq ?_
  refine X.region ?_
  refine X.opw X.wN rfl (X.move rfl) ?_
  refine X.opE X.wN rfl (X.callE (FirstN_c w.heap.size _ _ (by omega)) Try.call34 rfl rfl) ?_
  rintro _ w18 ⟨⟨p18, rfl⟩, hC18, hk18⟩
  have hk18' := hk18.size
  refine X.opE X.wN rfl (X.callE (rest_b _ (CV.cur hC18) (by omega) (fun k hk => by (try simp only [] at *); omega) (by simp)) Try.call15 rfl rfl) ?_
  rintro _ w19 ⟨v19, rfl, hM19, hx19⟩
  have hx19' := hx19.size
  refine X.opw X.wN rfl (X.move rfl) ?_
  refine X.opw X.wN rfl (X.extr rfl rfl) ?_
  refine X.opw X.wN rfl (X.extr rfl rfl) ?_
  refine X.opw X.wN rfl (X.assign rfl) ?_
  refine X.opw X.wN rfl (X.assign (v := .bool _) rfl) ?_
  refine X.opsEnd ?_
  refine X.seq ?_
  refine X.region ?_
  refine X.opE X.wN rfl (X.callE (CSum_c (B := w19.heap.size) (B0 := w19.heap.size) (a := w19.heap.size) (n := 0) (w0 := w19) (Tj := fun _ _ => False) (L := fun _ => []) (cs := []) (lo := 0) (hi := 0) _ (Sl.nil KR1 0 0 _ none) (by omega) (Nat.le_refl _) (Nat.le_refl _) (fun j hj => by omega) (fun i j hi => by omega) (fun j y hy => by simp at hy) (Nat.le_refl _) (Ext.refl _ _) (fun j hj => by omega)) Try.call44 rfl rfl) ?_
  rintro _ w20 ⟨⟨p20, rfl⟩, hC20, hk20⟩
  have hk20' := hk20.size
  refine X.opE X.wN rfl (X.callE (restc_c _ (CVC.cur hC20) (by omega) (fun k hk => by (try simp only [] at *); omega) (Nat.lt_of_le_of_lt (sumC_len _ _ (Nat.le_refl _)) (by simp [mgCC, totLC, mgFC]))) Try.call39 rfl rfl) ?_
  rintro _ w21 ⟨v21, rfl, hM21, hx21⟩
  have hx21' := hx21.size
  refine X.opw X.wN rfl (X.move rfl) ?_
  refine X.opw X.wN rfl (X.extr rfl rfl) ?_
  refine X.opw X.wN rfl (X.extr rfl rfl) ?_
  refine X.opw X.wN rfl (X.assign rfl) ?_
  refine X.opw X.wN rfl (X.assign (v := .bool _) rfl) ?_
  refine X.opsEnd ?_
  refine X.seq ?_
  refine X.region ?_
  refine X.opw X.wN rfl (X.move (v := .bool true) rfl) ?_
  refine X.opw X.wN rfl (X.move (v := .bool true) rfl) ?_
  refine X.opw (X.wG rfl rfl rfl) rfl (X.move (v := .bool true) rfl) ?_
  refine X.opw X.wN rfl (X.pickT (v := .bool true) rfl rfl) ?_
  refine X.opw X.wN rfl (X.move (v := .bool true) rfl) ?_
  refine X.opw (X.wG rfl rfl rfl) rfl (X.move (v := .bool true) rfl) ?_
  refine X.opw X.wN rfl (X.pickT (v := .bool true) rfl rfl) ?_
  refine X.opw X.wN rfl (X.move (v := .bool true) rfl) ?_
  refine X.opw (X.wG rfl rfl rfl) rfl (X.move (v := .bool true) rfl) ?_
  refine X.opw X.wN rfl (X.pickT (v := .bool true) rfl rfl) ?_
  refine X.opw X.wN rfl (X.move (v := .bool true) rfl) ?_
  refine X.opw (X.wG rfl rfl rfl) rfl (X.move (v := .bool true) rfl) ?_
  refine X.opw X.wN rfl (X.pickT (v := .bool true) rfl rfl) ?_
  refine X.opw X.wN rfl (X.move (v := .bool true) rfl) ?_
  refine X.opw (X.wG rfl rfl rfl) rfl (X.move (v := .bool true) rfl) ?_
  refine X.opw X.wN rfl (X.pickT (v := .bool true) rfl rfl) ?_
  refine X.opw X.wN rfl (X.move (v := .bool true) rfl) ?_
  refine X.opw (X.wG rfl rfl rfl) rfl (X.move (v := .bool true) rfl) ?_
  refine X.opw X.wN rfl (X.pickT (v := .bool true) rfl rfl) ?_
  refine X.opw X.wN rfl (X.move (v := .bool true) rfl) ?_
  refine X.opw (X.wG rfl rfl rfl) rfl (X.move rfl) ?_
  refine X.opw (X.wG rfl rfl rfl) rfl (X.move (v := .slice _ _ _) rfl) ?_
  have q23 := ((((((((((((hM5.keep (hk6.trans hk7)).ext hx8 (by intros; (try simp only []); omega) (by intros; (try simp only []); omega)).keep (hk9.trans hk10)).ext hx11 (by intros; (try simp only []); omega) (by intros; (try simp only []); omega)).keep (hk12.trans hk13)).ext hx14 (by intros; (try simp only []); omega) (by intros; (try simp only []); omega)).keep (hk15.trans hk16)).ext hx17 (by intros; (try simp only []); omega) (by intros; (try simp only []); omega)).keep hk18).ext hx19 (by intros; (try simp only []); omega) (by intros; (try simp only []); omega)).keep hk20).ext hx21 (by intros; (try simp only []); omega) (by intros; (try simp only []); omega)).slF KTh_flat 0 (fun _ _ => Nat.zero_le _)
  obtain ⟨A23, c23, rfl, hc23, hs23⟩ := q23
  refine X.opE (X.wG rfl rfl rfl) rfl (X.callE (Same_c _ hs23 ((((((((((((((hsq.keep ((hk2.trans hk3).trans hk4)).ext hx5 (by intros; (try simp only []); omega)).keep (hk6.trans hk7)).ext hx8 (by intros; (try simp only []); omega)).keep (hk9.trans hk10)).ext hx11 (by intros; (try simp only []); omega)).keep (hk12.trans hk13)).ext hx14 (by intros; (try simp only []); omega)).keep (hk15.trans hk16)).ext hx17 (by intros; (try simp only []); omega)).keep hk18).ext hx19 (by intros; (try simp only []); omega)).keep hk20).ext hx21 (by intros; (try simp only []); omega))) Try.call22 rfl rfl) ?_
  rintro _ w22 ⟨rfl, hk22⟩
  have hk22' := hk22.size
  refine X.opw X.wN rfl (X.pickT (v := .bool _) rfl rfl) ?_
  refine X.opw X.wN rfl (X.move (v := .bool _) rfl) ?_
  refine X.forkO 95 rfl (fun h95 => ?_) (fun h95 => ?_)
  · refine X.opw (X.wG rfl rfl rfl) rfl (X.move rfl) ?_
    refine X.opw (X.wG rfl rfl rfl) rfl (X.move (v := .slice _ _ _) rfl) ?_
    have q25 := (((((((hM14.keep (hk15.trans hk16)).ext hx17 (by intros; (try simp only []); omega) (by intros; (try simp only []); omega)).keep hk18).ext hx19 (by intros; (try simp only []); omega) (by intros; (try simp only []); omega)).keep hk20).ext hx21 (by intros; (try simp only []); omega) (by intros; (try simp only []); omega)).keep hk22).slF KTh_flat 0 (fun _ _ => Nat.zero_le _)
    obtain ⟨A25, c25, rfl, hc25, hs25⟩ := q25
    refine X.opE (X.wG rfl rfl rfl) rfl (X.callE (Same_c _ hs25 (((((((((((((((hsq.keep ((hk2.trans hk3).trans hk4)).ext hx5 (by intros; (try simp only []); omega)).keep (hk6.trans hk7)).ext hx8 (by intros; (try simp only []); omega)).keep (hk9.trans hk10)).ext hx11 (by intros; (try simp only []); omega)).keep (hk12.trans hk13)).ext hx14 (by intros; (try simp only []); omega)).keep (hk15.trans hk16)).ext hx17 (by intros; (try simp only []); omega)).keep hk18).ext hx19 (by intros; (try simp only []); omega)).keep hk20).ext hx21 (by intros; (try simp only []); omega)).keep hk22)) Try.call22 rfl rfl) ?_
    rintro _ w24 ⟨rfl, hk24⟩
    have hk24' := hk24.size
    refine X.opw X.wN rfl (X.pickT (v := .bool _) rfl rfl) ?_
    refine X.opw X.wN rfl (X.move (v := .bool _) rfl) ?_
    refine X.forkO 100 rfl (fun h100 => ?_) (fun h100 => ?_)
    · refine X.opw (X.wG rfl rfl rfl) rfl (X.move rfl) ?_
      have q26 := (((((((((((hM8.keep (hk9.trans hk10)).ext hx11 (by intros; (try simp only []); omega) (by intros; (try simp only []); omega)).keep (hk12.trans hk13)).ext hx14 (by intros; (try simp only []); omega) (by intros; (try simp only []); omega)).keep (hk15.trans hk16)).ext hx17 (by intros; (try simp only []); omega) (by intros; (try simp only []); omega)).keep hk18).ext hx19 (by intros; (try simp only []); omega) (by intros; (try simp only []); omega)).keep hk20).ext hx21 (by intros; (try simp only []); omega) (by intros; (try simp only []); omega)).keep (hk22.trans hk24)).slF KTh_flat 0 (fun _ _ => Nat.zero_le _)
      obtain ⟨A26, c26, rfl, hc26, hs26⟩ := q26
      refine X.opw (X.wG rfl rfl rfl) rfl (X.lenSl Try.underlying24 rfl) ?_
      refine X.opw (X.wG rfl rfl rfl) rfl (X.move rfl) ?_
      have q27 := (((((((((hM11.keep (hk12.trans hk13)).ext hx14 (by intros; (try simp only []); omega) (by intros; (try simp only []); omega)).keep (hk15.trans hk16)).ext hx17 (by intros; (try simp only []); omega) (by intros; (try simp only []); omega)).keep hk18).ext hx19 (by intros; (try simp only []); omega) (by intros; (try simp only []); omega)).keep hk20).ext hx21 (by intros; (try simp only []); omega) (by intros; (try simp only []); omega)).keep (hk22.trans hk24)).slF KTh_flat 0 (fun _ _ => Nat.zero_le _)
      obtain ⟨A27, c27, rfl, hc27, hs27⟩ := q27
      refine X.opw (X.wG rfl rfl rfl) rfl (X.lenSl Try.underlying24 rfl) ?_
      refine X.opw (X.wG rfl rfl rfl) rfl (X.add (c := 0) rfl rfl rfl) ?_
      refine X.opw (X.wG rfl rfl rfl) rfl (X.move rfl) ?_
      have q28 := (((((hM17.keep hk18).ext hx19 (by intros; (try simp only []); omega) (by intros; (try simp only []); omega)).keep hk20).ext hx21 (by intros; (try simp only []); omega) (by intros; (try simp only []); omega)).keep (hk22.trans hk24)).slF KTh_flat 0 (fun _ _ => Nat.zero_le _)
      obtain ⟨A28, c28, rfl, hc28, hs28⟩ := q28
      refine X.opw (X.wG rfl rfl rfl) rfl (X.lenSl Try.underlying24 rfl) ?_
      refine X.opw (X.wG rfl rfl rfl) rfl (X.add (c := 0) rfl rfl rfl) ?_
      refine X.opw (X.wG rfl rfl rfl) rfl (X.move rfl) ?_
      have q29 := (((hM19.keep hk20).ext hx21 (by intros; (try simp only []); omega) (by intros; (try simp only []); omega)).keep (hk22.trans hk24)).slF KTh_flat 0 (fun _ _ => Nat.zero_le _)
      obtain ⟨A29, c29, rfl, hc29, hs29⟩ := q29
      refine X.opw (X.wG rfl rfl rfl) rfl (X.lenSl Try.underlying24 rfl) ?_
      refine X.opw (X.wG rfl rfl rfl) rfl (X.add (c := 0) rfl rfl rfl) ?_
      refine X.opw (X.wG rfl rfl rfl) rfl (X.move rfl) ?_
      have q30 := (hM21.keep (hk22.trans hk24)).slF KCt_flat 0 (fun _ _ => Nat.zero_le _)
      obtain ⟨A30, c30, rfl, hc30, hs30⟩ := q30
      refine X.opw (X.wG rfl rfl rfl) rfl (X.lenSl Try.underlying64 rfl) ?_
      refine X.opw (X.wG rfl rfl rfl) rfl (X.add (c := 0) rfl rfl rfl) ?_
      refine X.opw (X.wG rfl rfl rfl) rfl (X.move rfl) ?_
      refine X.opE (X.wG rfl rfl rfl) rfl (X.callE (RestN_c _) Try.call21 rfl rfl) ?_
      rintro _ w31 ⟨rfl, hk31⟩
      have hk31' := hk31.size
      refine X.opw (X.wG rfl rfl rfl) rfl (X.lenSl Try.underlying24 rfl) ?_
      refine X.opw (X.wG rfl rfl rfl) rfl (X.add (c := 0) rfl rfl rfl) ?_
      refine X.opP (X.wG rfl rfl rfl) rfl rfl (X.eqI rfl rfl) (fun h119 => ?_) (fun h119 => ?_)
      · refine X.opw X.wN rfl (X.pickT (v := .bool true) rfl rfl) ?_
        refine X.opw X.wN rfl (X.move (v := .bool true) rfl) ?_
        refine X.opE (X.wG rfl rfl rfl) rfl (X.callE (alive_c _) Try.call14 rfl rfl) ?_
        rintro _ w32 ⟨rfl, hk32⟩
        have hk32' := hk32.size
        refine X.opw X.wN rfl (X.pickT (v := .bool _) rfl rfl) ?_
        refine X.opw X.wN rfl (X.assign (v := .bool _) rfl) ?_
        refine X.opsEnd ?_
        refine X.ret1 (v := (.bool _)) Try.func11 Try.results11 rfl ?_
        exact ⟨rfl, ((((((((((((((((((((((((hk1.trans hk2).trans hk3).trans hk4).step hx5 (by intros; (try simp only [] at *); omega)).trans hk6).trans hk7).step hx8 (by intros; (try simp only [] at *); omega)).trans hk9).trans hk10).step hx11 (by intros; (try simp only [] at *); omega)).trans hk12).trans hk13).step hx14 (by intros; (try simp only [] at *); omega)).trans hk15).trans hk16).step hx17 (by intros; (try simp only [] at *); omega)).trans hk18).step hx19 (by intros; (try simp only [] at *); omega)).trans hk20).step hx21 (by intros; (try simp only [] at *); omega)).trans hk22).trans hk24).trans hk31).trans hk32)⟩
      · exact absurd rfl h119
    · simp [hLH] at h100
  · simp at h95
end Go.Proofs.Ytgfficbkajcdpaa

namespace Go.Proofs.Ytgfficbkajcdpaa
open Go Go.Proofs.Ytgfficbkajcdpaa.X
set_option linter.unusedVariables false
set_option linter.unusedSimpArgs false
theorem sl_counted {lo hi : Nat} {w : World} {A : Option Addr} {n : Nat} {l : List (List VAL × Int)} (h : Sl (Kd.pair (Kd.slice KV) KI) lo hi w A n l) : ∃ l' : List CT, Sl KCt lo hi w A n l' ∧ ∀ x, x ∈ l' → ∃ t, Sl KV lo hi w x.1.1 x.1.2.1 t := by
  rcases Nat.eq_zero_or_pos n with hn | hn
  · subst hn; exact ⟨[], Sl.nil _ _ _ _ _, fun x h => by simp at h⟩
  obtain ⟨ad, e, h1, h2, hc⟩ := h.at_ hn
  obtain ⟨l', q1, q2⟩ := list_choose (l := l) (β := CT) (Q := fun j x y => (∀ i u, ([.slice y.1.1 y.1.2.1 y.1.2.2, .int .i64 y.2] : List Value)[i]? = some u → w.cell? (ad.add (j * 2 + i)) = some u) ∧ ∃ t, Sl KV lo hi w y.1.1 y.1.2.1 t) (fun j x hx => by
    obtain ⟨cs, ⟨a, b, rfl, ⟨A', n', c', rfl, _, hs⟩, hb⟩, hq⟩ := hc j x hx
    have hb : b = [.int .i64 x.2] := hb.1
    subst hb
    exact ⟨((A', n', c'), x.2), fun i u hu => hq i u hu, x.1, hs⟩)
  refine ⟨l', ⟨by rw [q1]; exact h.len, h.bound, fun _ => ⟨ad, e, h1, h2, fun j y hy => ?_⟩⟩, fun x hx => ?_⟩
  · have hj : j < l.length := by rw [← q1]; exact (List.getElem?_eq_some_iff.1 hy).1
    obtain ⟨y', g1, g2, _⟩ := q2 j _ (List.getElem?_eq_getElem hj)
    rw [hy] at g1; cases g1
    exact ⟨_, ⟨rfl, trivial⟩, g2⟩
  · obtain ⟨j, hj⟩ := List.mem_iff_getElem?.1 hx
    have hj' : j < l.length := by rw [← q1]; exact (List.getElem?_eq_some_iff.1 hj).1
    obtain ⟨y', g1, _, g3⟩ := q2 j _ (List.getElem?_eq_getElem hj')
    rw [hj] at g1; cases g1
    exact g3
theorem rows_counted {lo hi : Nat} {w : World} : ∀ {vs : List Value} {ls : List (List (List VAL × Int))}, SlRows (Kd.pair (Kd.slice KV) KI) lo hi w vs ls → ∃ cs : List (List CT), SlRows KCt lo hi w vs cs ∧ ∀ l ∈ cs, ∀ x, x ∈ l → ∃ t, Sl KV lo hi w x.1.1 x.1.2.1 t
  | [], [], _ => ⟨[], trivial, fun l h => by simp at h⟩
  | _ :: _, _ :: _, h => by
    obtain ⟨⟨A, n, c, e, h1, h2⟩, h3⟩ := h
    obtain ⟨l', g1, g2⟩ := sl_counted h2
    obtain ⟨cs, g3, g4⟩ := rows_counted h3
    exact ⟨l' :: cs, ⟨⟨A, n, c, e, h1, g1⟩, g3⟩, fun l hl => by
      rcases List.mem_cons.1 hl with rfl | hl
      · exact g2
      · exact g4 l hl⟩
  | [], _ :: _, h => h.elim
  | _ :: _, [], h => h.elim
theorem totLC_le {qs : List (List CT)} (h : ∀ l ∈ qs, l.length ≤ 30) : ∀ n, totLC (LLC qs) n ≤ 30 * n
  | 0 => Nat.le_refl _
  | n + 1 => by
    have := totLC_le h n
    have h2 : (LLC qs n).length ≤ 30 := by
      rw [LLC, List.getD_eq_getElem?_getD]
      cases hq : qs[n]? with
      | none => simp
      | some l => exact h l (List.mem_of_getElem? hq)
    rw [totLC]; omega
theorem sums_lt {eq lt : CT → CT → Bool} {qs : List (List CT)} (h : ∀ l ∈ qs, l.length ≤ 30) {n : Nat} (hn : n ≤ 6) : (sumC eq (mgCC lt n (LLC qs))).length ≤ 180 := by
  have h1 := mgCC_len (lt := lt) _ n (LLC qs) rfl
  have := totLC_le h n
  have := sumC_len (eq := eq) _ (mgCC lt n (LLC qs)) (Nat.le_refl _)
  omega
theorem sumC_mem {eq : CT → CT → Bool} : ∀ (n : Nat) (l : List CT), l.length ≤ n → ∀ x, x ∈ sumC eq l → ∃ y, y ∈ l ∧ x.1 = y.1
  | 0, [], _, x, h => by rw [sumC_nil] at h; simp at h
  | n + 1, [], _, x, h => by rw [sumC_nil] at h; simp at h
  | n + 1, a :: l, hl, x, h => by
    have h1 := absC_len (eq := eq) l a
    rw [sumC_cons] at h
    have ih := sumC_mem (eq := eq) n (absC eq a l).2 (by simp at hl; omega)
    have key : x ∈ sumC eq (absC eq a l).2 → ∃ y, y ∈ a :: l ∧ x.1 = y.1 := fun h => by
      obtain ⟨y, g1, g2⟩ := ih x h
      exact ⟨y, List.mem_cons_of_mem _ (absC_mem l a y g1), g2⟩
    split at h
    · rcases List.mem_cons.1 h with rfl | h
      · exact ⟨a, List.mem_cons_self, absC_hd l a⟩
      · exact key h
    · exact key h
theorem sums_ok {B0 : Nat} {w0 : World} {n : Nat} {qs : List (List CT)} (h : ∀ l ∈ qs, ∀ x, x ∈ l → okC B0 w0 x) : ∀ x, x ∈ sumC (eqC B0 w0) (mgCC (ltC B0 w0) n (LLC qs)) → okC B0 w0 x := by
  intro x hx
  obtain ⟨y, h1, h2⟩ := sumC_mem _ _ (Nat.le_refl _) x hx
  obtain ⟨j, hj, hm⟩ := mgCC_mem _ _ rfl y h1
  rw [LLC, List.getD_eq_getElem?_getD] at hm
  unfold okC; rw [h2]
  cases hq : qs[j]? with
  | none => rw [hq] at hm; simp at hm
  | some l => rw [hq] at hm; exact h l (List.mem_of_getElem? hq) y hm
theorem CWc.of_keep {B : Nat} {w0 w : World} (h : Keep w0 w) : CWc B w0 w := h.mono fun _ _ h => h.elim
theorem restc_b {B : Nat} {T : Nat → Prop} {p : Value} {xs : List CT} (w : World) (h : Cur Try.prog evC zC NXC B T p xs w) (hB : B ≤ w.heap.size) (hTb : ∀ k, T k → k < w.heap.size) (hxl : xs.length < 2000) : Ret Try.prog 39 #[.iface 108 p] w fun r w' => ∃ v, r = .tuple #[v, .bool true] ∧ Mine KCt 70 (fun k => w.heap.size ≤ k ∧ k < w'.heap.size) 0 0 w' v xs ∧ Ext T w w' :=
  (restc_c w h hB hTb hxl).mono fun r w' ⟨v, h1, h2, h3⟩ => ⟨v, h1, h2.mono fun k hk hs => ⟨hs, hk⟩, h3⟩
-- f9 "pedigree/pedigreelaw09.MergeSums" params [62] results [4] -> [(ResultVar.tmp 2)] nfree 0 ntmps 23 names
set_option maxHeartbeats 4000000 in
set_option maxRecDepth 100000 in
theorem MergeSums_c (w : World) (A1 : Option Addr) (n1 c1 : Nat) (l1 : List (List (List VAL × Int))) (hc1 : n1 ≤ c1) (s1 : Sl (Kd.slice (Kd.pair (Kd.slice KV) KI)) 0 w.heap.size w A1 n1 l1) :
    Ret Try.prog 9 #[.slice A1 n1 c1] w fun r w' => r = .bool true ∧ Keep w w' := by
  obtain ⟨vs, hs, hrows0⟩ := s1.rows
  obtain ⟨cs, hrows, hpx⟩ := rows_counted hrows0
  refine X.enter Try.func9 rfl Try.ntmps9 rfl ?_
  refine X.seq ?_
  refine X.region ?_
  refine X.opw X.wN rfl (X.assign rfl) ?_
  refine X.opsEnd ?_
  refine X.seq ?_
  refine X.region ?_
  refine X.opw X.wN rfl (X.move (v := .slice _ _ _) rfl) ?_
  refine X.opE X.wN rfl (X.callE (counted_c (okC w.heap.size w) _ hs hrows (Nat.le_refl _) hpx) Try.call38 rfl rfl) ?_
  rintro _ w1 ⟨us, qs, A1, c1, rfl, hc1, hs1, hr1, hu6, hq30, hqx, hk1⟩
  have hk1' := hk1.size
  refine X.opw X.wN rfl (X.assign (v := .slice _ _ _) rfl) ?_
  refine X.opsEnd ?_
  refine X.seq ?_
  refine X.region ?_
  refine X.opw X.wN rfl (X.move (v := .slice _ _ _) rfl) ?_
  refine X.opE X.wN rfl (X.callE (sums_c (B := w.heap.size) (B0 := w.heap.size) (w0 := w) _ hs1 hr1 (by omega) (by omega) hq30 (by omega) (Nat.le_refl _) (CWc.of_keep hk1) hqx) Try.call40 rfl rfl) ?_
  rintro _ w2 ⟨⟨p2, rfl⟩, hC2, hk2⟩
  have hk2' := hk2.size
  refine X.opE X.wN rfl (X.callE (restc_b _ (CVC.cur hC2) (by omega) (fun k hk => by (try simp only [] at *); omega) (by have := sums_lt (eq := eqC w.heap.size w) (lt := ltC w.heap.size w) hq30 hu6; omega)) Try.call39 rfl rfl) ?_
  rintro _ w3 ⟨v3, rfl, hM3, hx3⟩
  have hx3' := hx3.size
  refine X.opw X.wN rfl (X.move rfl) ?_
  refine X.opw X.wN rfl (X.extr rfl rfl) ?_
  refine X.opw X.wN rfl (X.extr rfl rfl) ?_
  refine X.opw X.wN rfl (X.assign rfl) ?_
  refine X.opw X.wN rfl (X.assign (v := .bool _) rfl) ?_
  refine X.opsEnd ?_
  refine X.seq ?_
  refine X.region ?_
  refine X.opw X.wN rfl (X.move (v := .bool true) rfl) ?_
  refine X.opw X.wN rfl (X.move (v := .bool true) rfl) ?_
  refine X.opw (X.wG rfl rfl rfl) rfl (X.move rfl) ?_
  refine X.opw (X.wG rfl rfl rfl) rfl (X.move (v := .slice _ _ _) rfl) ?_
  refine X.opE (X.wG rfl rfl rfl) rfl (X.callE ((RSum_c (B0 := w.heap.size) (w0 := w) _ ((hs1.keep hk2).ext hx3 (by intros; (try simp only []); omega)) (SlRows.ext hx3 (by intro k h1 h2; (try simp only []); omega) (SlRows.keep hk2 hr1)) (by omega) (by omega) (by omega) (by have := totLC_le hq30 us.length; omega) (CWc.of_keep ((hk1.trans hk2).step hx3 (by intros; (try simp only [] at *); omega))) hqx).mono fun _ _ h => cfresh_t h) Try.call42 rfl rfl) ?_
  rintro _ w4 ⟨A4, c4, rfl, hc4, hs4, hk4⟩
  have hk4' := hk4.size
  have q6 := (hM3.keep hk4).slF KCt_flat 0 (fun _ _ => Nat.zero_le _)
  obtain ⟨A6, c6, rfl, hc6, hs6⟩ := q6
  refine X.opE (X.wG rfl rfl rfl) rfl (X.callE (R07Same_c (B0 := w.heap.size) (w0 := w) _ hs6 hs4 (CWc.of_keep (((hk1.trans hk2).step hx3 (by intros; (try simp only [] at *); omega)).trans hk4)) (sums_ok hqx) (sums_ok hqx)) Try.call41 rfl rfl) ?_
  rintro _ w5 ⟨rfl, hk5⟩
  have hk5' := hk5.size
  refine X.opw X.wN rfl (X.pickT (v := .bool _) rfl rfl) ?_
  refine X.opw X.wN rfl (X.move (v := .bool _) rfl) ?_
  refine X.forkO 20 rfl (fun h20 => ?_) (fun h20 => ?_)
  · refine X.opE (X.wG rfl rfl rfl) rfl (X.callE (alive_c _) Try.call14 rfl rfl) ?_
    rintro _ w7 ⟨rfl, hk7⟩
    have hk7' := hk7.size
    refine X.opw X.wN rfl (X.pickT (v := .bool _) rfl rfl) ?_
    refine X.opw X.wN rfl (X.assign (v := .bool _) rfl) ?_
    refine X.opsEnd ?_
    refine X.ret1 (v := (.bool _)) Try.func9 Try.results9 rfl ?_
    exact ⟨rfl, (((((hk1.trans hk2).step hx3 (by intros; (try simp only [] at *); omega)).trans hk4).trans hk5).trans hk7)⟩
  · simp at h20
end Go.Proofs.Ytgfficbkajcdpaa

namespace Go.Proofs.Ytgfficbkajcdpaa
open Go Go.Proofs.Ytgfficbkajcdpaa.X
set_option linter.unusedVariables false
set_option linter.unusedSimpArgs false

theorem wr_eq (n : Int) : IntKind.i64.wrap n = if n % 18446744073709551616 ≥ 9223372036854775808 then n % 18446744073709551616 - 18446744073709551616 else n % 18446744073709551616 := by
  simp only [IntKind.wrap, IntKind.bits, IntKind.signed, Bool.true_and]
  by_cases h : n % 18446744073709551616 ≥ 9223372036854775808
  · rw [if_pos h]; exact if_pos (decide_eq_true h)
  · rw [if_neg h]; exact if_neg (fun e => h (of_decide_eq_true e))
theorem wr_l (a b : Int) : IntKind.i64.wrap (IntKind.i64.wrap a + b) = IntKind.i64.wrap (a + b) := by
  rw [wr_eq, wr_eq, wr_eq]
  split <;> split <;> split <;> omega
theorem wr_r (a b : Int) : IntKind.i64.wrap (a + IntKind.i64.wrap b) = IntKind.i64.wrap (a + b) := by
  rw [Int.add_comm, wr_l, Int.add_comm]
theorem wr_w (a : Int) : IntKind.i64.wrap (IntKind.i64.wrap a) = IntKind.i64.wrap a := by
  have := wr_l a 0
  rwa [Int.add_zero, Int.add_zero] at this
theorem wr_ok (a : Int) : okI (IntKind.i64.wrap a) := by
  rw [wr_eq]; unfold okI; split <;> omega
theorem wr_id {a : Int} (h : okI a) : IntKind.i64.wrap a = a := X.w_i64 h

section
variable (g : HDR → List VAL)
abbrev KL (x y : CT) : Prop := cmpT (g x.1) (g y.1) ≤ 0
abbrev KS_ (x y : CT) : Prop := cmpT (g x.1) (g y.1) < 0
def eqG (x y : CT) : Bool := decide (cmpT (g x.1) (g y.1) = 0)
def ltG (x y : CT) : Bool := decide (cmpT (g x.1) (g y.1) < 0)
def totK (M : List CT) (k : List VAL) : Int := (M.map fun x => if g x.1 = k then x.2 else 0).sum
variable {g}
theorem totK_nil (k : List VAL) : totK g [] k = 0 := rfl
theorem totK_cons (x : CT) (l : List CT) (k : List VAL) : totK g (x :: l) k = (if g x.1 = k then x.2 else 0) + totK g l k := by simp [totK]
theorem totK_app (l m : List CT) (k : List VAL) : totK g (l ++ m) k = totK g l k + totK g m k := by
  induction l with
  | nil => simp [totK_nil]
  | cons x l ih => rw [List.cons_append, totK_cons, totK_cons, ih]; omega
theorem totK_none {l : List CT} {k : List VAL} (h : ∀ y, y ∈ l → g y.1 ≠ k) : totK g l k = 0 := by
  induction l with
  | nil => rfl
  | cons x l ih => rw [totK_cons, if_neg (h x List.mem_cons_self), ih fun y hy => h y (List.mem_cons_of_mem _ hy)]; rfl
theorem lt_ne {a b : List VAL} (h : cmpT a b < 0) : b ≠ a := fun e => by rw [e, cmpT_self] at h; omega
theorem lt_le {a b c : List VAL} (h : cmpT a b < 0) (h2 : cmpT b c ≤ 0) : cmpT a c < 0 := by
  by_cases e : cmpT b c = 0
  · rw [← (cmpT_0 _ _).1 e]; exact h
  · exact cmpT_trans _ _ _ h (by omega)
theorem absC_spec : ∀ (l : List CT) (x : CT), (x :: l).Pairwise (KL g) → okI x.2 → (absC (eqG g) x l).1.1 = x.1 ∧ (absC (eqG g) x l).1.2 = IntKind.i64.wrap (x.2 + totK g l (g x.1)) ∧ (∀ y, y ∈ (absC (eqG g) x l).2 → KS_ g x y) ∧ (absC (eqG g) x l).2.Pairwise (KL g) ∧ (∀ k, k ≠ g x.1 → totK g (absC (eqG g) x l).2 k = totK g l k) ∧ ∀ y, y ∈ (absC (eqG g) x l).2 → y ∈ l
  | [], x, _, hx => ⟨rfl, by show x.2 = _; rw [totK_nil, Int.add_zero, wr_id hx], fun y h => by simp [absC] at h, List.Pairwise.nil, fun _ _ => rfl, fun y h => h⟩
  | y :: l, x, hp, hx => by
    obtain ⟨h1, h2⟩ := List.pairwise_cons.1 hp
    obtain ⟨h3, h4⟩ := List.pairwise_cons.1 h2
    by_cases he : g x.1 = g y.1
    · have e : eqG g x y = true := by simp [eqG, cmpT_0, he]
      rw [absC, if_pos e]
      obtain ⟨q1, q2, q3, q4, q5, q6⟩ := absC_spec l (x.1, IntKind.i64.wrap (x.2 + y.2)) (List.pairwise_cons.2 ⟨fun z hz => h1 z (List.mem_cons_of_mem _ hz), h4⟩) (wr_ok _)
      refine ⟨q1, ?_, q3, q4, fun k hk => ?_, fun z hz => List.mem_cons_of_mem _ (q6 z hz)⟩
      · rw [q2, wr_l, totK_cons, if_pos he.symm]; congr 1; simp only []; omega
      · rw [q5 k hk, totK_cons, if_neg (fun h => hk (by rw [he, h]))]; omega
    · have e : eqG g x y = false := by simp [eqG, cmpT_0, he]
      rw [absC, if_neg (by rw [e]; simp)]
      have hlt : KS_ g x y := by
        have := h1 y List.mem_cons_self
        have h5 : cmpT (g x.1) (g y.1) ≠ 0 := fun h => he ((cmpT_0 _ _).1 h)
        have h6 : cmpT (g x.1) (g y.1) ≤ 0 := this
        show cmpT (g x.1) (g y.1) < 0
        omega
      have hall : ∀ z, z ∈ y :: l → KS_ g x z := fun z hz => by
        rcases List.mem_cons.1 hz with rfl | hz
        · exact hlt
        · exact lt_le hlt (h3 z hz)
      refine ⟨rfl, ?_, hall, h2, fun _ _ => rfl, fun z hz => hz⟩
      rw [totK_none (fun z hz => lt_ne (hall z hz)), Int.add_zero, wr_id hx]
theorem sumC_spec : ∀ (n : Nat) (M : List CT), M.length ≤ n → M.Pairwise (KL g) → (∀ x, x ∈ M → okI x.2) →
    (sumC (eqG g) M).Pairwise (KS_ g) ∧ (∀ x, x ∈ sumC (eqG g) M → x.2 = IntKind.i64.wrap (totK g M (g x.1)) ∧ x.2 ≠ 0) ∧ ∀ k, IntKind.i64.wrap (totK g M k) ≠ 0 → ∃ x, x ∈ sumC (eqG g) M ∧ g x.1 = k
  | 0, [], _, _, _ => ⟨List.Pairwise.nil, fun x h => by rw [sumC_nil] at h; simp at h, fun k h => absurd (by rw [totK_nil]; rfl) h⟩
  | n + 1, [], _, _, _ => ⟨List.Pairwise.nil, fun x h => by rw [sumC_nil] at h; simp at h, fun k h => absurd (by rw [totK_nil]; rfl) h⟩
  | n + 1, a :: l, hl, hp, hr => by
    have hlen := absC_len (eq := eqG g) l a
    obtain ⟨q1, q2, q3, q4, q5, q6⟩ := absC_spec l a hp (hr a List.mem_cons_self)
    obtain ⟨i1, i2, i3⟩ := sumC_spec n (absC (eqG g) a l).2 (by simp at hl; omega) q4 (fun x hx => hr x (List.mem_cons_of_mem _ (q6 x hx)))
    have hmem : ∀ x, x ∈ sumC (eqG g) (absC (eqG g) a l).2 → KS_ g a x := fun x hx => by
      obtain ⟨y, h1, h2⟩ := sumC_mem _ _ (Nat.le_refl _) x hx
      have := q3 y h1
      show cmpT (g a.1) (g x.1) < 0
      rw [h2]; exact this
    have hin : ∀ x, x ∈ sumC (eqG g) (absC (eqG g) a l).2 → x.2 = IntKind.i64.wrap (totK g (a :: l) (g x.1)) ∧ x.2 ≠ 0 := fun x hx => by
      obtain ⟨j1, j2⟩ := i2 x hx
      have hne : g x.1 ≠ g a.1 := lt_ne (hmem x hx)
      rw [q5 _ hne] at j1
      rw [totK_cons, if_neg (fun h => hne h.symm), Int.zero_add]
      exact ⟨j1, j2⟩
    have hk : ∀ k, k ≠ g a.1 → IntKind.i64.wrap (totK g (a :: l) k) ≠ 0 → ∃ x, x ∈ sumC (eqG g) (absC (eqG g) a l).2 ∧ g x.1 = k := fun k hne h => by
      rw [totK_cons, if_neg (fun h => hne h.symm), Int.zero_add, ← q5 k hne] at h
      exact i3 k h
    have hN : (absC (eqG g) a l).1.2 = IntKind.i64.wrap (totK g (a :: l) (g a.1)) := by rw [q2, totK_cons, if_pos rfl]
    rw [sumC_cons]
    by_cases hz : (absC (eqG g) a l).1.2 ≠ 0
    · rw [if_pos hz]
      refine ⟨List.pairwise_cons.2 ⟨fun x hx => by show cmpT (g _) (g x.1) < 0; rw [q1]; exact hmem x hx, i1⟩, fun x hx => ?_, fun k h => ?_⟩
      · rcases List.mem_cons.1 hx with rfl | hx
        · rw [q1]; exact ⟨hN, hz⟩
        · exact hin x hx
      · by_cases e : k = g a.1
        · exact ⟨_, List.mem_cons_self, by rw [q1, e]⟩
        · obtain ⟨x, h1, h2⟩ := hk k e h
          exact ⟨x, List.mem_cons_of_mem _ h1, h2⟩
    · rw [if_neg hz]
      refine ⟨i1, hin, fun k h => hk k (fun e => hz ?_) h⟩
      rw [hN, ← e]; exact h
/-- The sum's own totals. -/
theorem totK_strict {l : List CT} (hp : l.Pairwise (KS_ g)) {x : CT} (hx : x ∈ l) : totK g l (g x.1) = x.2 := by
  induction l with
  | nil => simp at hx
  | cons y l ih =>
    obtain ⟨h1, h2⟩ := List.pairwise_cons.1 hp
    rw [totK_cons]
    rcases List.mem_cons.1 hx with rfl | hx
    · rw [if_pos rfl, totK_none (fun z hz => lt_ne (h1 z hz)), Int.add_zero]
    · rw [if_neg (fun h => lt_ne (h1 x hx) h.symm), ih h2 hx, Int.zero_add]
theorem totK_sum {M : List CT} (hp : M.Pairwise (KL g)) (hr : ∀ x, x ∈ M → okI x.2) (k : List VAL) : totK g (sumC (eqG g) M) k = IntKind.i64.wrap (totK g M k) := by
  obtain ⟨h1, h2, h3⟩ := sumC_spec _ M (Nat.le_refl _) hp hr
  by_cases h : ∃ x, x ∈ sumC (eqG g) M ∧ g x.1 = k
  · obtain ⟨x, hx, rfl⟩ := h
    rw [totK_strict h1 hx]; exact (h2 x hx).1
  · rw [totK_none (fun y hy e => h ⟨y, hy, e⟩)]
    by_cases hz : IntKind.i64.wrap (totK g M k) = 0
    · exact hz.symm
    · exact absurd (h3 k hz) h
theorem strict_eq : ∀ {l m : List CT}, l.Pairwise (KS_ g) → m.Pairwise (KS_ g) → (∀ x, x ∈ l → ∃ y, y ∈ m ∧ g x.1 = g y.1 ∧ x.2 = y.2) → (∀ y, y ∈ m → ∃ x, x ∈ l ∧ g y.1 = g x.1 ∧ y.2 = x.2) → l.map (fun x => (g x.1, x.2)) = m.map (fun x => (g x.1, x.2))
  | [], [], _, _, _, _ => rfl
  | [], y :: m, _, _, _, h => by obtain ⟨x, hx, _⟩ := h y List.mem_cons_self; simp at hx
  | x :: l, [], _, _, h, _ => by obtain ⟨y, hy, _⟩ := h x List.mem_cons_self; simp at hy
  | x :: l, y :: m, hl, hm, h1, h2 => by
    obtain ⟨a1, a2⟩ := List.pairwise_cons.1 hl
    obtain ⟨b1, b2⟩ := List.pairwise_cons.1 hm
    have hxy : g x.1 = g y.1 ∧ x.2 = y.2 := by
      obtain ⟨y', c1, c2, c3⟩ := h1 x List.mem_cons_self
      rcases List.mem_cons.1 c1 with rfl | c1
      · exact ⟨c2, c3⟩
      · obtain ⟨x', d1, d2, d3⟩ := h2 y List.mem_cons_self
        rcases List.mem_cons.1 d1 with rfl | d1
        · exact ⟨d2.symm, d3.symm⟩
        · have e1 : cmpT (g y.1) (g y'.1) < 0 := b1 y' c1
          have e2 : cmpT (g x.1) (g x'.1) < 0 := a1 x' d1
          rw [← c2] at e1
          rw [← d2] at e2
          have := cmpT_trans _ _ _ e1 e2
          rw [cmpT_self] at this; omega
    have t1 : ∀ x', x' ∈ l → ∃ y', y' ∈ m ∧ g x'.1 = g y'.1 ∧ x'.2 = y'.2 := fun x' hx' => by
      obtain ⟨y', c1, c2, c3⟩ := h1 x' (List.mem_cons_of_mem _ hx')
      rcases List.mem_cons.1 c1 with rfl | c1
      · have e : cmpT (g x.1) (g x'.1) < 0 := a1 x' hx'
        rw [c2, ← hxy.1, cmpT_self] at e; omega
      · exact ⟨y', c1, c2, c3⟩
    have t2 : ∀ y', y' ∈ m → ∃ x', x' ∈ l ∧ g y'.1 = g x'.1 ∧ y'.2 = x'.2 := fun y' hy' => by
      obtain ⟨x', c1, c2, c3⟩ := h2 y' (List.mem_cons_of_mem _ hy')
      rcases List.mem_cons.1 c1 with rfl | c1
      · have e : cmpT (g y.1) (g y'.1) < 0 := b1 y' hy'
        rw [c2, hxy.1, cmpT_self] at e; omega
      · exact ⟨x', c1, c2, c3⟩
    rw [List.map_cons, List.map_cons, strict_eq a2 b2 t1 t2, hxy.1, hxy.2]
/-- Two sorted rows of the same totals have the same sums. -/
theorem sums_same {M M' : List CT} (hp : M.Pairwise (KL g)) (hr : ∀ x, x ∈ M → okI x.2) (hp' : M'.Pairwise (KL g)) (hr' : ∀ x, x ∈ M' → okI x.2) (h : ∀ k, IntKind.i64.wrap (totK g M k) = IntKind.i64.wrap (totK g M' k)) :
    (sumC (eqG g) M).map (fun x => (g x.1, x.2)) = (sumC (eqG g) M').map (fun x => (g x.1, x.2)) := by
  obtain ⟨a1, a2, a3⟩ := sumC_spec _ M (Nat.le_refl _) hp hr
  obtain ⟨b1, b2, b3⟩ := sumC_spec _ M' (Nat.le_refl _) hp' hr'
  refine strict_eq a1 b1 (fun x hx => ?_) (fun y hy => ?_)
  · obtain ⟨c1, c2⟩ := a2 x hx
    obtain ⟨y, d1, d2⟩ := b3 (g x.1) (by rw [← h, ← c1]; exact c2)
    exact ⟨y, d1, d2.symm, by rw [(b2 y d1).1, c1, d2, h]⟩
  · obtain ⟨c1, c2⟩ := b2 y hy
    obtain ⟨x, d1, d2⟩ := a3 (g y.1) (by rw [h, ← c1]; exact c2)
    exact ⟨x, d1, d2.symm, by rw [(a2 x d1).1, c1, d2, h]⟩
-- the merge of rows that rise
def rsK (g : HDR → List VAL) (L : Nat → List CT) (k : List VAL) : Nat → Int
  | 0 => 0
  | n + 1 => rsK g L k n + totK g (L n) k
theorem rsK_upd {L : Nat → List CT} {x : CT} {l : List CT} {i : Nat} (h : L i = x :: l) (k : List VAL) : ∀ n, rsK g (updLC L i) k n + (if i < n then (if g x.1 = k then x.2 else 0) else 0) = rsK g L k n
  | 0 => by simp [rsK]
  | n + 1 => by
    have ih := rsK_upd h k n
    rw [rsK, rsK]
    by_cases e : n = i
    · subst e
      have e1 : updLC L n n = l := by simp [updLC, h]
      rw [if_neg (by omega)] at ih
      rw [e1, h, totK_cons, if_pos (by omega), ← ih]; omega
    · have e1 : updLC L i n = L n := by simp [updLC, e]
      rw [e1, ← ih]
      by_cases h2 : i < n
      · rw [if_pos h2, if_pos (by omega)]; omega
      · rw [if_neg h2, if_neg (by omega)]; omega
theorem mgCC_tot {lt : CT → CT → Bool} {n : Nat} (k : List VAL) : ∀ (t : Nat) (L : Nat → List CT), totLC L n = t → totK g (mgCC lt n L) k = rsK g L k n
  | 0, L, h => by
    have e : ∀ m, m ≤ n → totLC L m = 0 ∧ rsK g L k m = 0 := by
      intro m
      induction m with
      | zero => intro _; exact ⟨rfl, rfl⟩
      | succ m ih =>
        intro hm
        obtain ⟨i1, i2⟩ := ih (by omega)
        have hle : ∀ a b, a ≤ b → totLC L a ≤ totLC L b := by
          intro a b hab
          induction hab with
          | refl => exact Nat.le_refl _
          | step _ ih => exact Nat.le_trans ih (by rw [totLC]; omega)
        have h0 := hle (m + 1) n hm
        rw [h, totLC] at h0
        have hm0 : L m = [] := List.eq_nil_of_length_eq_zero (by omega)
        exact ⟨by rw [totLC, i1, hm0]; rfl, by rw [rsK, i2, hm0, totK_nil]; rfl⟩
    rw [mgCC, h, (e n (Nat.le_refl _)).2]; rfl
  | t + 1, L, h => by
    cases hp : pkC lt L n with
    | none =>
      have hz := pkC_none hp
      have : ∀ m, m ≤ n → totLC L m = 0 := by
        intro m
        induction m with
        | zero => intro _; rfl
        | succ m ih => intro hm; rw [totLC, ih (by omega), hz m (by omega)]; rfl
      rw [this n (Nat.le_refl _)] at h; omega
    | some q =>
      obtain ⟨i, x⟩ := q
      obtain ⟨h1, l, h2⟩ := pkC_some hp
      have h3 := totLC_upd h2 n
      rw [if_pos h1] at h3
      have h4 := rsK_upd (g := g) h2 k n
      rw [if_pos h1] at h4
      rw [mgCC_some hp, totK_cons, mgCC_tot k t (updLC L i) (by omega), ← h4]; omega
theorem le_tot {a b : List VAL} (h : ¬ cmpT a b < 0) : cmpT b a ≤ 0 := by rw [cmpT_neg]; omega
theorem pkC_min {L : Nat → List CT} : ∀ {n i : Nat} {x : CT}, pkC (ltG g) L n = some (i, x) → ∀ j, j < n → ∀ y l, L j = y :: l → KL g x y
  | 0, _, _, h, _, hj, _, _, _ => by omega
  | n + 1, i, x, h, j, hj, y, l, hy => by
    rw [pkC] at h
    split at h
    · rename_i hl
      rcases Nat.lt_succ_iff_lt_or_eq.1 hj with h1 | rfl
      · exact pkC_min h j h1 y l hy
      · rw [hl] at hy; cases hy
    · rename_i z l' hl hp
      cases h
      rcases Nat.lt_succ_iff_lt_or_eq.1 hj with h1 | rfl
      · have := pkC_none hp j h1; rw [this] at hy; cases hy
      · rw [hl] at hy; cases hy; show cmpT (g _) (g _) ≤ 0; rw [cmpT_self]; omega
    · rename_i z l' i' x' hl hp
      have ih : ∀ j, j < n → ∀ y l, L j = y :: l → KL g x' y := fun j hj y l hy => pkC_min hp j hj y l hy
      split at h
      · rename_i hlt
        cases h
        have hlt : cmpT (g x.1) (g x'.1) < 0 := by simpa [ltG] using hlt
        rcases Nat.lt_succ_iff_lt_or_eq.1 hj with h1 | rfl
        · exact cmpT_le (by omega) (ih j h1 y l hy)
        · rw [hl] at hy; cases hy; show cmpT (g _) (g _) ≤ 0; rw [cmpT_self]; omega
      · rename_i hlt
        cases h
        have hlt : ¬ cmpT (g z.1) (g x.1) < 0 := by simpa [ltG] using hlt
        rcases Nat.lt_succ_iff_lt_or_eq.1 hj with h1 | rfl
        · exact ih j h1 y l hy
        · rw [hl] at hy; cases hy; exact le_tot hlt
theorem mgCC_sorted {n : Nat} : ∀ (t : Nat) (L : Nat → List CT), totLC L n = t → (∀ j, j < n → (L j).Pairwise (KL g)) → (mgCC (ltG g) n L).Pairwise (KL g)
  | 0, L, h, _ => by rw [mgCC, h]; exact List.Pairwise.nil
  | t + 1, L, h, hs => by
    cases hp : pkC (ltG g) L n with
    | none => rw [mgCC_none hp]; exact List.Pairwise.nil
    | some q =>
      obtain ⟨i, x⟩ := q
      obtain ⟨h1, l, h2⟩ := pkC_some hp
      have h3 := totLC_upd h2 n
      rw [if_pos h1] at h3
      rw [mgCC_some hp]
      refine List.pairwise_cons.2 ⟨fun y hy => ?_, mgCC_sorted t (updLC L i) (by omega) fun j hj => ?_⟩
      · obtain ⟨j, hj, hm⟩ := mgCC_mem _ _ rfl y hy
        have hm := updLC_mem hm
        cases hL : L j with
        | nil => rw [hL] at hm; simp at hm
        | cons z l' =>
          have hxz := pkC_min hp j hj z l' hL
          rw [hL] at hm
          rcases List.mem_cons.1 hm with rfl | hm
          · exact hxz
          · have := hs j hj
            rw [hL] at this
            exact cmpT_le hxz ((List.pairwise_cons.1 this).1 y hm)
      · unfold updLC; split
        · have := hs j hj
          cases hL : L j with
          | nil => exact List.Pairwise.nil
          | cons z l' => rw [hL] at this; exact (List.pairwise_cons.1 this).2
        · exact hs j hj
/-- All rows' totals. -/
def allK (g : HDR → List VAL) (ls : List (List CT)) (k : List VAL) : Int := (ls.map fun l => totK g l k).sum
theorem sum_app : ∀ (a b : List Int), (a ++ b).sum = a.sum + b.sum
  | [], b => by simp
  | x :: a, b => by rw [List.cons_append, List.sum_cons, List.sum_cons, sum_app a b]; omega
theorem allK_app (a b : List (List CT)) (k : List VAL) : allK g (a ++ b) k = allK g a k + allK g b k := by rw [allK, List.map_append, sum_app]; rfl
theorem allK_rev : ∀ (a : List (List CT)) (k : List VAL), allK g a.reverse k = allK g a k
  | [], _ => rfl
  | x :: a, k => by rw [List.reverse_cons, allK_app, allK_rev a k]; simp [allK]; omega
theorem rsK_all {ls : List (List CT)} (k : List VAL) : ∀ n, n ≤ ls.length → rsK g (LLC ls) k n = allK g (ls.take n) k
  | 0, _ => by simp [rsK, allK]
  | n + 1, h => by
    have hx : ls[n]? = some (ls[n]'(by omega)) := List.getElem?_eq_getElem (by omega)
    rw [rsK, rsK_all k n (by omega), take_at hx, allK_app]
    congr 1
    rw [LLC, List.getD_eq_getElem?_getD, hx]; simp [allK]
/-- The sums of several rows that rise. -/
def SumsOf (g : HDR → List VAL) (ls : List (List CT)) : List CT := sumC (eqG g) (mgCC (ltG g) ls.length (LLC ls))
theorem LLC_all {ls : List (List CT)} {P : List CT → Prop} (h : ∀ l ∈ ls, P l) (h0 : P []) (j : Nat) : P (LLC ls j) := by
  rw [LLC, List.getD_eq_getElem?_getD]
  cases hq : ls[j]? with
  | none => exact h0
  | some l => exact h l (List.mem_of_getElem? hq)
theorem mg_all {ls : List (List CT)} {n : Nat} (hs : ∀ l ∈ ls, l.Pairwise (KL g)) (hr : ∀ l ∈ ls, ∀ x, x ∈ l → okI x.2) : (mgCC (ltG g) n (LLC ls)).Pairwise (KL g) ∧ ∀ x, x ∈ mgCC (ltG g) n (LLC ls) → okI x.2 := by
  refine ⟨mgCC_sorted _ _ rfl fun j _ => LLC_all hs List.Pairwise.nil j, fun x hx => ?_⟩
  obtain ⟨j, _, hm⟩ := mgCC_mem _ _ rfl x hx
  exact LLC_all (P := fun l => ∀ x, x ∈ l → okI x.2) hr (fun x h => by simp at h) j x hm
theorem mg_totK {ls : List (List CT)} (k : List VAL) : totK g (mgCC (ltG g) ls.length (LLC ls)) k = allK g ls k := by
  rw [mgCC_tot k _ _ rfl, rsK_all k _ (Nat.le_refl _), List.take_length]
theorem any_rev {ls : List (List CT)} (hs : ∀ l ∈ ls, l.Pairwise (KL g)) (hr : ∀ l ∈ ls, ∀ x, x ∈ l → okI x.2) : (SumsOf g ls).map (fun x => (g x.1, x.2)) = (SumsOf g ls.reverse).map (fun x => (g x.1, x.2)) := by
  obtain ⟨a1, a2⟩ := mg_all (n := ls.length) hs hr
  obtain ⟨b1, b2⟩ := mg_all (g := g) (ls := ls.reverse) (n := ls.reverse.length) (fun l h => hs l (List.mem_reverse.1 h)) (fun l h => hr l (List.mem_reverse.1 h))
  exact sums_same a1 a2 b1 b2 fun k => by rw [mg_totK, mg_totK, allK_rev]
def L2C (a b : List CT) : Nat → List CT
  | 0 => a
  | 1 => b
  | _ => []
theorem strict_le {l : List CT} (h : l.Pairwise (KS_ g)) : l.Pairwise (KL g) := h.imp fun h => by show cmpT _ _ ≤ 0; have h : cmpT _ _ < 0 := h; omega
theorem sums_parts {ls : List (List CT)} (hs : ∀ l ∈ ls, l.Pairwise (KL g)) (hr : ∀ l ∈ ls, ∀ x, x ∈ l → okI x.2) : (SumsOf g ls).Pairwise (KL g) ∧ (∀ x, x ∈ SumsOf g ls → okI x.2) ∧ ∀ k, totK g (SumsOf g ls) k = IntKind.i64.wrap (allK g ls k) := by
  obtain ⟨a1, a2⟩ := mg_all (n := ls.length) hs hr
  obtain ⟨b1, b2, _⟩ := sumC_spec _ _ (Nat.le_refl _) a1 a2
  exact ⟨strict_le b1, fun x hx => by rw [(b2 x hx).1]; exact wr_ok _, fun k => by rw [SumsOf, totK_sum a1 a2, mg_totK]⟩
theorem any_two {ls : List (List CT)} (hs : ∀ l ∈ ls, l.Pairwise (KL g)) (hr : ∀ l ∈ ls, ∀ x, x ∈ l → okI x.2) (h : Nat) : (SumsOf g ls).map (fun x => (g x.1, x.2)) = (sumC (eqG g) (mgCC (ltG g) 2 (L2C (SumsOf g (ls.take h)) (SumsOf g (ls.drop h))))).map (fun x => (g x.1, x.2)) := by
  obtain ⟨a1, a2⟩ := mg_all (n := ls.length) hs hr
  obtain ⟨p1, p2, p3⟩ := sums_parts (g := g) (ls := ls.take h) (fun l hl => hs l (List.mem_of_mem_take hl)) (fun l hl => hr l (List.mem_of_mem_take hl))
  obtain ⟨q1, q2, q3⟩ := sums_parts (g := g) (ls := ls.drop h) (fun l hl => hs l (List.mem_of_mem_drop hl)) (fun l hl => hr l (List.mem_of_mem_drop hl))
  refine sums_same a1 a2 (mgCC_sorted _ _ rfl fun j hj => ?_) (fun x hx => ?_) fun k => ?_
  · match j, hj with
    | 0, _ => exact p1
    | 1, _ => exact q1
  · obtain ⟨j, hj, hm⟩ := mgCC_mem _ _ rfl x hx
    match j, hj, hm with
    | 0, _, hm => exact p2 x hm
    | 1, _, hm => exact q2 x hm
  · rw [mg_totK, mgCC_tot k _ _ rfl]
    show _ = IntKind.i64.wrap (0 + totK g (SumsOf g (ls.take h)) k + totK g (SumsOf g (ls.drop h)) k)
    rw [Int.zero_add, p3, q3, wr_l, wr_r, ← allK_app, List.take_append_drop]
end
end Go.Proofs.Ytgfficbkajcdpaa

namespace Go.Proofs.Ytgfficbkajcdpaa
open Go Go.Proofs.Ytgfficbkajcdpaa.X
set_option linter.unusedVariables false
set_option linter.unusedSimpArgs false
theorem rows_snocV {K : Kd CT} {lo hi : Nat} {w : World} {vs : List Value} {ls : List (List CT)} {v : Value} {l : List CT} (h : SlRows K lo hi w vs ls) (h2 : ∃ A n c, v = .slice A n c ∧ n ≤ c ∧ Sl K lo hi w A n l) : SlRows K lo hi w (vs ++ [v]) (ls ++ [l]) := by
  induction vs generalizing ls with
  | nil => cases ls with
    | nil => exact ⟨h2, trivial⟩
    | cons _ _ => exact h.elim
  | cons a vs ih => cases ls with
    | nil => exact h.elim
    | cons b ls => exact ⟨h.1, ih h.2⟩
theorem rows_rev {K : Kd CT} {lo hi : Nat} {w : World} : ∀ {vs : List Value} {ls : List (List CT)}, SlRows K lo hi w vs ls → SlRows K lo hi w vs.reverse ls.reverse
  | [], [], _ => trivial
  | _ :: _, _ :: _, h => by rw [List.reverse_cons, List.reverse_cons]; exact rows_snocV (rows_rev h.2) h.1
  | [], _ :: _, h => h.elim
  | _ :: _, [], h => h.elim
theorem rows_takeR {K : Kd CT} {lo hi : Nat} {w : World} : ∀ {vs : List Value} {ls : List (List CT)} (n : Nat), SlRows K lo hi w vs ls → SlRows K lo hi w (vs.take n) (ls.take n)
  | _, _, 0, _ => by rw [List.take_zero, List.take_zero]; trivial
  | [], [], _ + 1, _ => trivial
  | _ :: _, _ :: _, n + 1, h => ⟨h.1, rows_takeR n h.2⟩
  | [], _ :: _, _ + 1, h => h.elim
  | _ :: _, [], _ + 1, h => h.elim
theorem rows_dropR {K : Kd CT} {lo hi : Nat} {w : World} : ∀ {vs : List Value} {ls : List (List CT)} (n : Nat), SlRows K lo hi w vs ls → SlRows K lo hi w (vs.drop n) (ls.drop n)
  | _, _, 0, h => h
  | [], [], _ + 1, _ => trivial
  | _ :: _, _ :: _, n + 1, h => rows_dropR n h.2
  | [], _ :: _, _ + 1, h => h.elim
  | _ :: _, [], _ + 1, h => h.elim
theorem rising {g : HDR → List VAL} : ∀ {l : List CT}, (∀ (m : Nat) x y, l[m]? = some x → l[m + 1]? = some y → cmpT (g x.1) (g y.1) < 0) → l.Pairwise (KS_ g)
  | [], _ => List.Pairwise.nil
  | [a], _ => List.pairwise_singleton _ _
  | a :: b :: l, h => by
    have ih := rising (l := b :: l) fun m x y h1 h2 => h (m + 1) x y (by simpa using h1) (by simpa using h2)
    have hab := h 0 a b rfl rfl
    refine List.pairwise_cons.2 ⟨fun z hz => ?_, ih⟩
    rcases List.mem_cons.1 hz with rfl | hz
    · exact hab
    · exact cmpT_trans _ _ _ hab ((List.pairwise_cons.1 ih).1 z hz)
theorem sl_countedI {lo hi : Nat} {w : World} {A : Option Addr} {n : Nat} {l : List (List VAL × Int)} (h : Sl (Kd.pair (Kd.slice KV) KI) lo hi w A n l) : ∃ l' : List CT, Sl KCt lo hi w A n l' ∧ ∀ x, x ∈ l' → (∃ t, Sl KV lo hi w x.1.1 x.1.2.1 t) ∧ okI x.2 := by
  rcases Nat.eq_zero_or_pos n with hn | hn
  · subst hn; exact ⟨[], Sl.nil _ _ _ _ _, fun x h => by simp at h⟩
  obtain ⟨ad, e, h1, h2, hc⟩ := h.at_ hn
  obtain ⟨l', q1, q2⟩ := list_choose (l := l) (β := CT) (Q := fun j x y => (∀ i u, ([.slice y.1.1 y.1.2.1 y.1.2.2, .int .i64 y.2] : List Value)[i]? = some u → w.cell? (ad.add (j * 2 + i)) = some u) ∧ (∃ t, Sl KV lo hi w y.1.1 y.1.2.1 t) ∧ okI y.2) (fun j x hx => by
    obtain ⟨cs, ⟨a, b, rfl, ⟨A', n', c', rfl, _, hs⟩, hb, hi⟩, hq⟩ := hc j x hx
    subst hb
    exact ⟨((A', n', c'), x.2), fun i u hu => hq i u hu, ⟨x.1, hs⟩, hi⟩)
  refine ⟨l', ⟨by rw [q1]; exact h.len, h.bound, fun _ => ⟨ad, e, h1, h2, fun j y hy => ?_⟩⟩, fun x hx => ?_⟩
  · have hj : j < l.length := by rw [← q1]; exact (List.getElem?_eq_some_iff.1 hy).1
    obtain ⟨y', g1, g2, _⟩ := q2 j _ (List.getElem?_eq_getElem hj)
    rw [hy] at g1; cases g1
    exact ⟨_, ⟨rfl, trivial⟩, g2⟩
  · obtain ⟨j, hj⟩ := List.mem_iff_getElem?.1 hx
    have hj' : j < l.length := by rw [← q1]; exact (List.getElem?_eq_some_iff.1 hj).1
    obtain ⟨y', g1, _, g3⟩ := q2 j _ (List.getElem?_eq_getElem hj')
    rw [hj] at g1; cases g1
    exact g3
theorem rows_countedI {lo hi : Nat} {w : World} : ∀ {vs : List Value} {ls : List (List (List VAL × Int))}, SlRows (Kd.pair (Kd.slice KV) KI) lo hi w vs ls → ∃ cs : List (List CT), SlRows KCt lo hi w vs cs ∧ ∀ l ∈ cs, ∀ x, x ∈ l → (∃ t, Sl KV lo hi w x.1.1 x.1.2.1 t) ∧ okI x.2
  | [], [], _ => ⟨[], trivial, fun l h => by simp at h⟩
  | _ :: _, _ :: _, h => by
    obtain ⟨⟨A, n, c, e, h1, h2⟩, h3⟩ := h
    obtain ⟨l', g1, g2⟩ := sl_countedI h2
    obtain ⟨cs, g3, g4⟩ := rows_countedI h3
    exact ⟨l' :: cs, ⟨⟨A, n, c, e, h1, g1⟩, g3⟩, fun l hl => by
      rcases List.mem_cons.1 hl with rfl | hl
      · exact g2
      · exact g4 l hl⟩
  | [], _ :: _, h => h.elim
  | _ :: _, [], h => h.elim
theorem CSum2_c {B B0 a0 b0 a1 b1 lo hi c : Nat} {w0 : World} {y0 y1 : Value} {l0 l1 : List CT} {A : Option Addr} (w : World) (hs : Sl KR1 lo hi w A 2 [y0, y1]) (h0 : CVC B (fun k => a0 ≤ k ∧ k < b0) y0 l0 w) (h1 : CVC B (fun k => a1 ≤ k ∧ k < b1) y1 l1 w) (hB : B ≤ a0) (hab : a0 ≤ b0) (h01 : b0 ≤ a1) (h1b : a1 ≤ b1) (hb : b1 ≤ w.heap.size) (hB0 : B0 ≤ B) (hCW : CWc B0 w0 w) (ok0 : ∀ x, x ∈ l0 → okC B0 w0 x) (ok1 : ∀ x, x ∈ l1 → okC B0 w0 x) :
    Ret Try.prog 44 #[.slice A 2 c] w fun r w' => (∃ p, r = .iface 108 p) ∧ CVC B (fun k => a0 ≤ k ∧ k < w'.heap.size) r (sumC (eqC B0 w0) (mgCC (ltC B0 w0) 2 (L2C l0 l1))) w' ∧ Keep w w' := by
  refine CSum_c (n := 2) (L := L2C l0 l1) (Tj := fun j k => (j = 0 ∧ a0 ≤ k ∧ k < b0) ∨ (j = 1 ∧ a1 ≤ k ∧ k < b1)) w hs (by omega) hB (by omega) (fun j hj k hk => by omega) (fun i j hi hj hne k h1 h2 => by omega) ?_ hB0 hCW ?_
  · intro j y hy
    match j, hy with
    | 0, hy => cases hy; exact h0.wide fun k hk => .inl ⟨rfl, hk⟩
    | 1, hy => cases hy; exact h1.wide fun k hk => .inr ⟨rfl, hk⟩
    | n + 2, hy => simp at hy
  · intro j hj
    match j, hj with
    | 0, _ => exact ok0
    | 1, _ => exact ok1
theorem reps2I {w : World} {U : TypeId} {p q : Value} : RepsV KR1 w [.iface U p, .iface U q] [.iface U p, .iface U q] := ⟨⟨_, rfl, rfl, rfl⟩, ⟨_, rfl, rfl, rfl⟩, trivial⟩
theorem two_lt {eq lt : CT → CT → Bool} {l0 l1 : List CT} (h0 : l0.length ≤ 180) (h1 : l1.length ≤ 180) : (sumC eq (mgCC lt 2 (L2C l0 l1))).length < 2000 := by
  have a := mgCC_len (lt := lt) _ 2 (L2C l0 l1) rfl
  have b := sumC_len (eq := eq) _ (mgCC lt 2 (L2C l0 l1)) (Nat.le_refl _)
  simp only [totLC, L2C] at a
  omega
theorem two_ok {B0 : Nat} {w0 : World} {l0 l1 : List CT} (h0 : ∀ x, x ∈ l0 → okC B0 w0 x) (h1 : ∀ x, x ∈ l1 → okC B0 w0 x) : ∀ x, x ∈ sumC (eqC B0 w0) (mgCC (ltC B0 w0) 2 (L2C l0 l1)) → okC B0 w0 x := by
  intro x hx
  obtain ⟨y, a1, a2⟩ := sumC_mem _ _ (Nat.le_refl _) x hx
  obtain ⟨j, hj, hm⟩ := mgCC_mem _ _ rfl y a1
  unfold okC; rw [a2]
  match j, hj, hm with
  | 0, _, hm => exact h0 y hm
  | 1, _, hm => exact h1 y hm
-- f10 "pedigree/pedigreelaw09.MergeAny" params [62] results [4] -> [(ResultVar.tmp 2)] nfree 0 ntmps 114 name
set_option maxHeartbeats 4000000 in
set_option maxRecDepth 100000 in
theorem MergeAny_c (w : World) (A1 : Option Addr) (n1 c1 : Nat) (l1 : List (List (List VAL × Int))) (hc1 : n1 ≤ c1) (s1 : Sl (Kd.slice (Kd.pair (Kd.slice KV) KI)) 0 w.heap.size w A1 n1 l1) :
    Ret Try.prog 10 #[.slice A1 n1 c1] w fun r w' => r = .bool true ∧ Keep w w' := by
  obtain ⟨vs, hs, hrows0⟩ := s1.rows
  obtain ⟨cs, hrows, hpx⟩ := rows_countedI hrows0
  refine X.enter Try.func10 rfl Try.ntmps10 rfl ?_
  refine X.seq ?_
  refine X.region ?_
  refine X.opw X.wN rfl (X.assign rfl) ?_
  refine X.opsEnd ?_
  refine X.seq ?_
  refine X.region ?_
  refine X.opw X.wN rfl (X.move (v := .slice _ _ _) rfl) ?_
  refine X.opE X.wN rfl (X.callE (counted_c (fun x => okC w.heap.size w x ∧ okI x.2) _ hs hrows (Nat.le_refl _) hpx) Try.call38 rfl rfl) ?_
  rintro _ w1 ⟨us, qs, A1, c1, rfl, hc1, hs1, hr1, hu6, hq30, hqx, hk1⟩
  have hk1' := hk1.size
  refine X.opw X.wN rfl (X.assign (v := .slice _ _ _) rfl) ?_
  refine X.opsEnd ?_
  refine X.seq ?_
  refine X.seq ?_
  refine X.region ?_
  refine X.opw X.wN rfl (X.assign rfl) ?_
  refine X.opsEnd ?_
  refine X.block ?_
  -- LOOP live: 0=l, 3=i*
  refine X.loopL (σ := Nat) (fun s => [(0, .slice A1 us.length c1), (3, .int .i64 (s : Int))]) (fun s w' => s ≤ us.length ∧ (∀ j l, j < s → qs[j]? = some l → l.Pairwise (KS_ (tp w.heap.size w))) ∧ Sl KR1 0 w1.heap.size w' A1 us.length us ∧ SlRows KCt 0 w.heap.size w' us qs ∧ w1.heap.size ≤ w'.heap.size ∧ Keep w w') (fun s => us.length - s) 0 ⟨rfl, rfl, trivial⟩ ⟨Nat.zero_le _, fun j l h => by omega, hs1, hr1, by omega, hk1⟩ ?_
  rintro i b0 wl ⟨hi, hris, hsl, hrl, hwl, hk⟩ hback
  have hk' := hk.size
  refine X.seq ?_
  refine X.seq ?_
  refine X.region ?_
  refine X.opw X.wN rfl (X.move (v := .int .i64 _) rfl) ?_
  refine X.opw X.wN rfl (X.move (v := .slice _ _ _) rfl) ?_
  refine X.opw X.wN rfl (X.lenSl Try.underlying62 rfl) ?_
  refine X.opP X.wN rfl rfl (X.lss rfl rfl) (fun h19 => ?_) (fun h19 => ?_)
  · obtain ⟨vi, hvi⟩ := getV (vs := us) i rfl (by omega)
    obtain ⟨li, Ai, ni, ci, hli, rfl, hnci, hsi⟩ := SlRows.get hrl hvi
    have hlen30 := hq30 li (List.mem_of_getElem? hli)
    have hlil := hsi.len
    refine X.opsEnd ?_
    refine X.condT rfl ?_
    refine X.skip ?_
    refine X.seq ?_
    refine X.block ?_
    refine X.seq ?_
    refine X.region ?_
    refine X.opw X.wN rfl (X.assign rfl) ?_
    refine X.opsEnd ?_
    refine X.block ?_
    -- LOOP live: 0=l, 3=i, 4=k*
    refine X.loopL (σ := Nat) (fun s => [(0, .slice A1 us.length c1), (3, .int .i64 (i : Int)), (4, .int .i64 (s : Int))]) (fun s w' => 1 ≤ s ∧ (s ≤ li.length ∨ s = 1) ∧ (∀ (m : Nat) x y, m + 1 < s → li[m]? = some x → li[m + 1]? = some y → cmpT ((tp w.heap.size w) x.1) ((tp w.heap.size w) y.1) < 0) ∧ Keep wl w' ∧ Keep w w') (fun s => li.length - s) 1 ⟨rfl, rfl, rfl, trivial⟩ ⟨Nat.le_refl _, .inr rfl, fun m x y h => by omega, Keep.refl _, hk⟩ ?_
    rintro k b2 wm ⟨hk1, hkl, hadj, hwm, hkm⟩ hback2
    have hkm' := hkm.size
    have hwm' := hwm.size
    refine X.seq ?_
    refine X.seq ?_
    refine X.region ?_
    refine X.opw X.wN rfl (X.move (v := .int .i64 _) rfl) ?_
    refine X.opw X.wN rfl (X.move (v := .slice _ _ _) rfl) ?_
    refine X.opw X.wN rfl (X.move (v := .int .i64 _) rfl) ?_
    refine X.opw X.wN rfl (X.idxS (hsl.keep hwm) Try.underlying62 Try.sizeOf64 rfl rfl ⟨by omega, by omega⟩) ?_
    refine X.opw X.wN rfl (X.loadS Try.isAgg64 (hsl.keep hwm) hvi rfl (fun _ h => by rw [h.1]; rfl)) ?_
    refine X.opw X.wN rfl (X.lenSl Try.underlying64 rfl) ?_
    refine X.opP X.wN rfl rfl (X.lss rfl rfl) (fun h28 => ?_) (fun h28 => ?_)
    · obtain ⟨x0, hx0⟩ := getC (k - 1) hlil (by omega)
      obtain ⟨x1, hx1⟩ := getC k hlil (by omega)
      refine X.opsEnd ?_
      refine X.condT rfl ?_
      refine X.skip ?_
      refine X.seq ?_
      refine X.block ?_
      refine X.seq ?_
      refine X.regionD (fun _ => False) 19 (by kernel_rfl) (by kernel_rfl) (fun w2 hk2 hz2 => ?_)
      refine X.dTake 0 rfl (by kernel_rfl) (by kernel_rfl) (by kernel_rfl) (X.dwN rfl) (fun w' hk' => X.move (v := .slice _ _ _) rfl) ?_
      refine X.dTake 1 rfl (by kernel_rfl) (by kernel_rfl) (by kernel_rfl) (X.dwN rfl) (fun w' hk' => X.move (v := .int .i64 _) rfl) ?_
      refine X.dTake 2 rfl (by kernel_rfl) (by kernel_rfl) (by kernel_rfl) (X.dwN rfl) (fun w' hk' => X.idxS ((hsl.keep hwm).keep (hk2.trans hk')) Try.underlying62 Try.sizeOf64 rfl rfl ⟨by omega, by omega⟩) ?_
      refine X.dTake 3 rfl (by kernel_rfl) (by kernel_rfl) (by kernel_rfl) (X.dwN rfl) (fun w' hk' => X.loadS Try.isAgg64 ((hsl.keep hwm).keep (hk2.trans hk')) hvi rfl (fun _ h => by rw [h.1]; rfl)) ?_
      refine X.dTake 4 rfl (by kernel_rfl) (by kernel_rfl) (by kernel_rfl) (X.dwN rfl) (fun w' hk' => X.move (v := .int .i64 _) rfl) ?_
      refine X.dTake 5 rfl (by kernel_rfl) (by kernel_rfl) (by kernel_rfl) (X.dwN rfl) (fun w' hk' => X.sub (c := ((k - 1 : Nat) : Int)) rfl rfl (by rw [X.w_i64 (by omega)]; omega)) ?_
      refine X.dTake 6 rfl (by kernel_rfl) (by kernel_rfl) (by kernel_rfl) (X.dwN rfl) (fun w' hk' => X.idxS ((hsi.keep hwm).keep (hk2.trans hk')) Try.underlying64 Try.sizeOf70 rfl rfl ⟨by omega, by omega⟩) ?_
      refine X.dTake 7 rfl (by kernel_rfl) (by kernel_rfl) (by kernel_rfl) (X.dwN rfl) (fun w' hk' => X.fldA Try.underlying70 rfl rfl Try.sizeOf68) ?_
      refine X.dTake 8 rfl (by kernel_rfl) (by kernel_rfl) (by kernel_rfl) (X.dwN rfl) (fun w' hk' => X.loadSf Try.isAgg68 ((hsi.keep hwm).keep (hk2.trans hk')) hx0 rfl (fun _ h => by rw [h.1]; rfl)) ?_
      refine X.dTake 9 rfl (by kernel_rfl) (by kernel_rfl) (by kernel_rfl) (X.dwN rfl) (fun w' hk' => X.move (v := .slice _ _ _) rfl) ?_
      refine X.dTake 10 rfl (by kernel_rfl) (by kernel_rfl) (by kernel_rfl) (X.dwN rfl) (fun w' hk' => X.move (v := .int .i64 _) rfl) ?_
      refine X.dTake 11 rfl (by kernel_rfl) (by kernel_rfl) (by kernel_rfl) (X.dwN rfl) (fun w' hk' => X.idxS ((hsl.keep hwm).keep (hk2.trans hk')) Try.underlying62 Try.sizeOf64 rfl rfl ⟨by omega, by omega⟩) ?_
      refine X.dTake 12 rfl (by kernel_rfl) (by kernel_rfl) (by kernel_rfl) (X.dwN rfl) (fun w' hk' => X.loadS Try.isAgg64 ((hsl.keep hwm).keep (hk2.trans hk')) hvi rfl (fun _ h => by rw [h.1]; rfl)) ?_
      refine X.dTake 13 rfl (by kernel_rfl) (by kernel_rfl) (by kernel_rfl) (X.dwN rfl) (fun w' hk' => X.move (v := .int .i64 _) rfl) ?_
      refine X.dTake 14 rfl (by kernel_rfl) (by kernel_rfl) (by kernel_rfl) (X.dwN rfl) (fun w' hk' => X.idxS ((hsi.keep hwm).keep (hk2.trans hk')) Try.underlying64 Try.sizeOf70 rfl rfl ⟨by omega, by omega⟩) ?_
      refine X.dTake 15 rfl (by kernel_rfl) (by kernel_rfl) (by kernel_rfl) (X.dwN rfl) (fun w' hk' => X.fldA Try.underlying70 rfl rfl Try.sizeOf68) ?_
      refine X.dTake 16 rfl (by kernel_rfl) (by kernel_rfl) (by kernel_rfl) (X.dwN rfl) (fun w' hk' => X.loadSf Try.isAgg68 ((hsi.keep hwm).keep (hk2.trans hk')) hx1 rfl (fun _ h => by rw [h.1]; rfl)) ?_
      refine X.dE (i := 17) (by kernel_rfl) rfl (X.dwN rfl) (X.callE (R02Compare_c _ (tp_now (hqx li (List.mem_of_getElem? hli) x0 (List.mem_of_getElem? hx0)).1 (CWc.of_keep (hkm.trans hk2))) (tp_now (hqx li (List.mem_of_getElem? hli) x1 (List.mem_of_getElem? hx1)).1 (CWc.of_keep (hkm.trans hk2)))) Try.call43 rfl rfl) (by rintro _ w3 ⟨rfl, hk3⟩ _; exact hk3.mono (fun _ _ h => h.elim)) ?_
      rintro _ w3 ⟨rfl, hk3⟩
      have hk3' := hk3.size
      refine X.dTake 18 rfl (by kernel_rfl) (by kernel_rfl) (by kernel_rfl) (X.dwN rfl) (fun w' hk' => X.geq rfl rfl) ?_
      refine X.dEnd (by kernel_rfl) ?_
      refine X.condB rfl (fun hc => ?_) (fun hc => ?_)
      · refine X.seq ?_
        refine X.region ?_
        refine X.opE X.wN rfl (X.callE (alive_c _) Try.call14 rfl rfl) ?_
        rintro _ w4 ⟨rfl, hk4⟩
        have hk4' := hk4.size
        refine X.opw X.wN rfl (X.assign (v := .bool _) rfl) ?_
        refine X.opsEnd ?_
        refine X.ret1 (v := (.bool _)) Try.func10 Try.results10 rfl ?_
        exact ⟨rfl, (((hkm.trans hk2).trans hk3).trans hk4)⟩
      · refine X.skip ?_
        refine X.inBlock ?_
        refine X.region ?_
        refine X.opw X.wN rfl (X.move (v := .int .i64 _) rfl) ?_
        refine X.opw X.wN rfl (X.add rfl rfl (X.w_i64 (by omega))) ?_
        refine X.opw X.wN rfl (X.assign (v := .int .i64 _) rfl) ?_
        refine X.opsEnd ?_
        have hadj2 : ∀ (m : Nat) x y, m + 1 < k + 1 → li[m]? = some x → li[m + 1]? = some y → cmpT ((tp w.heap.size w) x.1) ((tp w.heap.size w) y.1) < 0 := by
          intro m x y h1 h2 h3
          by_cases e : m + 1 < k
          · exact hadj m x y e h2 h3
          · rw [show m = k - 1 by omega] at h2
            rw [show m + 1 = k by omega] at h3
            rw [hx0] at h2
            rw [hx1] at h3
            cases h2; cases h3
            have hc2 : ¬ 0 ≤ cmpT ((tp w.heap.size w) x0.1) ((tp w.heap.size w) x1.1) := by simpa using hc
            omega
        refine hback2 (k + 1) _ _ ⟨rfl, rfl, rfl, trivial⟩ ⟨by omega, .inl (by omega), hadj2, ((hwm.trans hk2).trans hk3), ((hkm.trans hk2).trans hk3)⟩ (by omega)
    · have hli2 : li.Pairwise (KS_ (tp w.heap.size w)) := rising fun m x y h1 h2 => hadj m x y (by have := (List.getElem?_eq_some_iff.1 h2).1; omega) h1 h2
      refine X.opsEnd ?_
      refine X.condF rfl ?_
      refine X.exit rfl ?_
      refine X.inBlock ?_
      refine X.region ?_
      refine X.opw X.wN rfl (X.move (v := .int .i64 _) rfl) ?_
      refine X.opw X.wN rfl (X.add rfl rfl (X.w_i64 (by omega))) ?_
      refine X.opw X.wN rfl (X.assign (v := .int .i64 _) rfl) ?_
      refine X.opsEnd ?_
      have hris2 : ∀ j l, j < i + 1 → qs[j]? = some l → l.Pairwise (KS_ (tp w.heap.size w)) := by
        intro j l hj hl
        by_cases e : j < i
        · exact hris j l e hl
        · rw [show j = i by omega, hli] at hl
          cases hl; exact hli2
      refine hback (i + 1) _ _ ⟨rfl, rfl, trivial⟩ ⟨by omega, hris2, (hsl.keep hwm), SlRows.keep hwm hrl, by omega, hkm⟩ (by omega)
  · have hrl' : us.length = qs.length := hrl.len
    have hall : ∀ l ∈ qs, l.Pairwise (KL (tp w.heap.size w)) := fun l hl => by
      obtain ⟨j, hj⟩ := List.mem_iff_getElem?.1 hl
      exact strict_le (hris j l (by have := (List.getElem?_eq_some_iff.1 hj).1; omega) hj)
    have hok : ∀ l ∈ qs, ∀ x, x ∈ l → okC w.heap.size w x := fun l hl x hx => (hqx l hl x hx).1
    have hokN : ∀ l ∈ qs, ∀ x, x ∈ l → okI x.2 := fun l hl x hx => (hqx l hl x hx).2
    have hq30r : ∀ l ∈ qs.reverse, l.length ≤ 30 := fun l hl => hq30 l (List.mem_reverse.1 hl)
    have hokr : ∀ l ∈ qs.reverse, ∀ x, x ∈ l → okC w.heap.size w x := fun l hl => hok l (List.mem_reverse.1 hl)
    have hq30t : ∀ l ∈ qs.take (us.length / 2), l.length ≤ 30 := fun l hl => hq30 l (List.mem_of_mem_take hl)
    have hokt : ∀ l ∈ qs.take (us.length / 2), ∀ x, x ∈ l → okC w.heap.size w x := fun l hl => hok l (List.mem_of_mem_take hl)
    have hq30d : ∀ l ∈ qs.drop (us.length / 2), l.length ≤ 30 := fun l hl => hq30 l (List.mem_of_mem_drop hl)
    have hokd : ∀ l ∈ qs.drop (us.length / 2), ∀ x, x ∈ l → okC w.heap.size w x := fun l hl => hok l (List.mem_of_mem_drop hl)
    have hA1 : (sumC (eqC w.heap.size w) (mgCC (ltC w.heap.size w) us.length (LLC qs))).map (rdC w.heap.size w) = (sumC (eqC w.heap.size w) (mgCC (ltC w.heap.size w) us.reverse.length (LLC qs.reverse))).map (rdC w.heap.size w) := by
      have h := any_rev (g := (tp w.heap.size w)) hall hokN
      rw [SumsOf, SumsOf, ← hrl', show qs.reverse.length = us.reverse.length by rw [List.length_reverse, List.length_reverse, hrl']] at h
      exact h
    have hA2 : (sumC (eqC w.heap.size w) (mgCC (ltC w.heap.size w) us.length (LLC qs))).map (rdC w.heap.size w) = (sumC (eqC w.heap.size w) (mgCC (ltC w.heap.size w) 2 (L2C (sumC (eqC w.heap.size w) (mgCC (ltC w.heap.size w) (us.length / 2) (LLC (qs.take (us.length / 2))))) (sumC (eqC w.heap.size w) (mgCC (ltC w.heap.size w) (us.length - us.length / 2) (LLC (qs.drop (us.length / 2)))))))).map (rdC w.heap.size w) := by
      have h := any_two (g := (tp w.heap.size w)) hall hokN (us.length / 2)
      rw [SumsOf, SumsOf, SumsOf, List.length_take, List.length_drop, ← hrl', Nat.min_eq_left (show us.length / 2 ≤ us.length by omega)] at h
      exact h
    refine X.opsEnd ?_
    refine X.condF rfl ?_
    refine X.exit rfl ?_
    refine X.seq ?_
    refine X.region ?_
    refine X.opw X.wN rfl (X.move (v := .slice _ _ _) rfl) ?_
    refine X.opE X.wN rfl (X.callE (sums_c (B := w.heap.size) (B0 := w.heap.size) (w0 := w) _ hsl hrl (by omega) (by omega) hq30 (by omega) (Nat.le_refl _) (CWc.of_keep hk) hok) Try.call40 rfl rfl) ?_
    rintro _ w5 ⟨⟨p5, rfl⟩, hC5, hk5⟩
    have hk5' := hk5.size
    refine X.opE X.wN rfl (X.callE (restc_b _ (CVC.cur hC5) (by omega) (fun k hk => by (try simp only [] at *); omega) (by have := sums_lt (eq := eqC w.heap.size w) (lt := ltC w.heap.size w) (n := us.length) hq30 hu6; omega)) Try.call39 rfl rfl) ?_
    rintro _ w6 ⟨v6, rfl, hM6, hx6⟩
    have hx6' := hx6.size
    refine X.opw X.wN rfl (X.move rfl) ?_
    refine X.opw X.wN rfl (X.extr rfl rfl) ?_
    refine X.opw X.wN rfl (X.extr rfl rfl) ?_
    refine X.opw X.wN rfl (X.assign rfl) ?_
    refine X.opw X.wN rfl (X.assign (v := .bool _) rfl) ?_
    refine X.opsEnd ?_
    refine X.seq ?_
    refine X.region ?_
    refine X.opw X.wN rfl (X.assign rfl) ?_
    refine X.opsEnd ?_
    refine X.seq ?_
    refine X.seq ?_
    refine X.region ?_
    refine X.opw X.wN rfl (X.move (v := .slice _ _ _) rfl) ?_
    refine X.opw X.wN rfl (X.lenSl Try.underlying62 rfl) ?_
    refine X.opw X.wN rfl (X.sub (c := (us.length : Int) - 1 - ((0 : Nat) : Int)) rfl rfl (by rw [X.w_i64 (by omega)]; omega)) ?_
    refine X.opw X.wN rfl (X.assign (v := .int .i64 _) rfl) ?_
    refine X.opsEnd ?_
    refine X.block ?_
    -- LOOP live: 0=l, 5=a, 6=ok, 7=back*, 8=i*
    obtain ⟨A5, c5, e5, hc5, hs5⟩ := hM6.slF KCt_flat 0 (fun _ _ => Nat.zero_le _)
    subst e5
    have hsl0 := ((hsl.keep hk5).ext hx6 (by intros; (try simp only []); omega))
    have hrb0 := (SlRows.ext hx6 (by intro k h1 h2; (try simp only []); omega) (SlRows.keep hk5 hrl))
    refine X.loopL (σ := Nat × Value) (fun s => [(0, .slice A1 us.length c1), (5, .slice A5 (sumC (eqC w.heap.size w) (mgCC (ltC w.heap.size w) us.length (LLC qs))).length c5), (6, .bool true), (7, s.2), (8, .int .i64 ((us.length : Int) - 1 - (s.1 : Int)))]) (fun s w' => s.1 ≤ us.length ∧ Mine KR1 64 (fun k => w6.heap.size ≤ k) 0 0 w' s.2 (us.reverse.take s.1) ∧ Keep w6 w' ∧ Keep w w') (fun s => us.length - s.1) (0, _) ⟨rfl, rfl, rfl, rfl, rfl, trivial⟩ ⟨Nat.zero_le _, Mine.nil _ _ _ _ _ _, Keep.refl _, ((hk.trans hk5).step hx6 (by intros; (try simp only [] at *); omega))⟩ ?_
    rintro ⟨i, v⟩ b0 wl ⟨hi, hMo, hwl2, hk⟩ hback
    dsimp only
    simp only at hi hMo
    have hk' := hk.size
    have hwl2' := hwl2.size
    have hrb := SlRows.keep hwl2 hrb0
    have hurl : us.reverse.length = us.length := List.length_reverse
    refine X.seq ?_
    refine X.seq ?_
    refine X.region ?_
    refine X.opw X.wN rfl (X.move (v := .int .i64 _) rfl) ?_
    refine X.opP X.wN rfl rfl (X.geq rfl rfl) (fun h61 => ?_) (fun h61 => ?_)
    · obtain ⟨vi, hvi⟩ := getV (vs := us) (us.length - 1 - i) rfl (by omega)
      have hvr : us.reverse[i]? = some vi := by rw [List.getElem?_reverse (by omega)]; exact hvi
      obtain ⟨li, Ai, ni, ci, hli, rfl, hnci, hsi⟩ := SlRows.get hrb hvi
      refine X.opsEnd ?_
      refine X.condT rfl ?_
      refine X.skip ?_
      refine X.seq ?_
      refine X.block ?_
      refine X.region ?_
      refine X.opw X.wN rfl (X.move rfl) ?_
      refine X.opw X.wN rfl (X.move (v := .slice _ _ _) rfl) ?_
      refine X.opw X.wN rfl (X.move (v := .int .i64 ((us.length - 1 - i : Nat) : Int)) (by show Value.int .i64 ((us.length : Int) - 1 - (i : Int)) = _; congr 1; omega)) ?_
      refine X.opw X.wN rfl (X.idxS (hsl0.keep hwl2) Try.underlying62 Try.sizeOf64 rfl rfl ⟨by omega, by omega⟩) ?_
      refine X.opw X.wN rfl (X.loadS Try.isAgg64 (hsl0.keep hwl2) hvi rfl (fun _ h => by rw [h.1]; rfl)) ?_
      refine X.opE X.wN rfl (X.litKF KR1_flat (K := KR1) (xs := [Operand.tmp 68]) (vs := [.slice Ai ni ci]) (ys := [.slice Ai ni ci]) Try.underlying62 Try.sizeOf64 Try.zeroValue64 rfl rfl rfl rfl rfl (reps_1 rfl rfl)) ?_
      rintro _ w7 ⟨rfl, hs7, hB7, hk7, hz7⟩
      refine X.opE X.wN rfl (X.appE (K := KR1) (S := fun k => w6.heap.size ≤ k) KR1_flat Try.underlying62 ERwC rfl rfl (hMo.keep hk7) hs7 (by (try simp only [List.length_append, List.length_cons, List.length_nil, List.length_take, List.length_drop, List.length_map, List.length_range]); omega) (by intros; (try simp only [] at *); omega)) ?_
      rintro v8 w8 ⟨hM8, hx8⟩
      have hx8' := hx8.size
      refine X.opw X.wN rfl (X.assign rfl) ?_
      refine X.opsEnd ?_
      refine X.inBlock ?_
      refine X.region ?_
      refine X.opw X.wN rfl (X.move (v := .int .i64 _) rfl) ?_
      refine X.opw X.wN rfl (X.sub (c := (us.length : Int) - 1 - (i : Int) - 1) rfl rfl (X.w_i64 (by omega))) ?_
      refine X.opw X.wN rfl (X.assign (v := .int .i64 _) rfl) ?_
      refine X.opsEnd ?_
      have henc8 : (us.length : Int) - 1 - (i : Int) - 1 = (us.length : Int) - 1 - ((i + 1 : Nat) : Int) := by omega
      refine hback (i + 1, _) _ _ ⟨(by first | rfl | (rw [← henc8]; rfl)), (by first | rfl | (rw [← henc8]; rfl)), (by first | rfl | (rw [← henc8]; rfl)), (by first | rfl | (rw [← henc8]; rfl)), (by first | rfl | (rw [← henc8]; rfl)), trivial⟩ ⟨by dsimp only; omega, by dsimp only; rw [take_at hvr]; exact hM8, ((hwl2.trans hk7).step hx8 (by intros; (try simp only [] at *); omega)), ((hk.trans hk7).step hx8 (by intros; (try simp only [] at *); omega))⟩ (by dsimp only; omega)
    · have hin : i = us.length := by omega
      subst hin
      rw [show us.reverse.take us.length = us.reverse by rw [← hurl, List.take_length]] at hMo
      refine X.opsEnd ?_
      refine X.condF rfl ?_
      refine X.exit rfl ?_
      refine X.seq ?_
      refine X.region ?_
      refine X.opw X.wN rfl (X.move rfl) ?_
      have q10 := hMo.slF KR1_flat 0 (fun _ _ => Nat.zero_le _)
      obtain ⟨A10, c10, rfl, hc10, hs10⟩ := q10
      refine X.opE X.wN rfl (X.callE (sums_c (B := w.heap.size) (B0 := w.heap.size) (w0 := w) _ hs10 (rows_rev hrb) (by omega) (by omega) hq30r (by omega) (Nat.le_refl _) (CWc.of_keep hk) hokr) Try.call40 rfl rfl) ?_
      rintro _ w9 ⟨⟨p9, rfl⟩, hC9, hk9⟩
      have hk9' := hk9.size
      refine X.opE X.wN rfl (X.callE (restc_b _ (CVC.cur hC9) (by omega) (fun k hk => by (try simp only [] at *); omega) (by have := sums_lt (eq := eqC w.heap.size w) (lt := ltC w.heap.size w) (n := us.reverse.length) hq30r (by omega); omega)) Try.call39 rfl rfl) ?_
      rintro _ w11 ⟨v11, rfl, hM11, hx11⟩
      have hx11' := hx11.size
      refine X.opw X.wN rfl (X.move rfl) ?_
      refine X.opw X.wN rfl (X.extr rfl rfl) ?_
      refine X.opw X.wN rfl (X.extr rfl rfl) ?_
      refine X.opw X.wN rfl (X.assign rfl) ?_
      refine X.opw X.wN rfl (X.assign (v := .bool _) rfl) ?_
      refine X.opsEnd ?_
      refine X.seq ?_
      refine X.region ?_
      refine X.opw X.wN rfl (X.move (v := .slice _ _ _) rfl) ?_
      refine X.opw X.wN rfl (X.lenSl Try.underlying62 rfl) ?_
      refine X.opw X.wN rfl (X.quo (c := ((us.length / 2 : Nat) : Int)) rfl rfl (by decide) (by rw [show ((us.length : Nat) : Int).tdiv 2 = ((us.length / 2 : Nat) : Int) from rfl, X.w_i64 (by omega)])) ?_
      refine X.opw X.wN rfl (X.assign (v := .int .i64 _) rfl) ?_
      refine X.opsEnd ?_
      refine X.seq ?_
      refine X.regionD (fun k => w11.heap.size ≤ k) 15 (by kernel_rfl) (by kernel_rfl) (fun w12 hk12 hz12 => ?_)
      refine X.dTake 0 rfl (by kernel_rfl) (by kernel_rfl) (by kernel_rfl) (X.dwN rfl) (fun w' hk' => X.move (v := .slice _ _ _) rfl) ?_
      refine X.dTake 1 rfl (by kernel_rfl) (by kernel_rfl) (by kernel_rfl) (X.dwN rfl) (fun w' hk' => X.move (v := .int .i64 _) rfl) ?_
      refine X.dTake 2 rfl (by kernel_rfl) (by kernel_rfl) (by kernel_rfl) (X.dwN rfl) (fun w' hk' => X.cutHr Try.underlying62 Try.sizeOf64 rfl rfl (by omega)) ?_
      refine X.dTake 4 rfl (by kernel_rfl) (by kernel_rfl) (by kernel_rfl) (X.dwN rfl) (fun w' hk' => X.move (v := .slice _ _ _) rfl) ?_
      refine X.dTake 5 rfl (by kernel_rfl) (by kernel_rfl) (by kernel_rfl) (X.dwN rfl) (fun w' hk' => X.move (v := .int .i64 _) rfl) ?_
      refine X.dTake 6 rfl (by kernel_rfl) (by kernel_rfl) (by kernel_rfl) (X.dwN rfl) (fun w' hk' => X.cutL Try.underlying62 Try.sizeOf64 rfl rfl (by omega)) ?_
      refine X.dE (i := 3) (by kernel_rfl) rfl (X.dwN rfl) (X.callE (sums_c (B := w.heap.size) (B0 := w.heap.size) (w0 := w) _ (((((hsl0.keep hwl2).take _ (by omega)).keep hk9).ext hx11 (by intros; (try simp only []); omega)).keep hk12) (rows_takeR (us.length / 2) (SlRows.keep hk12 (SlRows.ext hx11 (by intro k h1 h2; (try simp only []); omega) (SlRows.keep hk9 hrb)))) (by omega) (by omega) hq30t (by omega) (Nat.le_refl _) (CWc.of_keep (((hk.trans hk9).step hx11 (by intros; (try simp only [] at *); omega)).trans hk12)) hokt) Try.call40 rfl rfl) (by rintro _ w13 ⟨⟨p13, rfl⟩, hC13, hk13⟩ _; exact hk13.mono (fun _ _ h => h.elim)) ?_
      rintro _ w13 ⟨⟨p13, rfl⟩, hC13, hk13⟩
      have hk13' := hk13.size
      refine X.dE (i := 7) (by kernel_rfl) rfl (X.dwN rfl) (X.callE (sums_c (B := w.heap.size) (B0 := w.heap.size) (w0 := w) _ (((((hsl0.keep hwl2).drop (us.length / 2) c1 (by omega) (by omega)).keep hk9).ext hx11 (by intros; (try simp only []); omega)).keep (hk12.trans hk13)) (rows_dropR (us.length / 2) (SlRows.keep hk13 (SlRows.keep hk12 (SlRows.ext hx11 (by intro k h1 h2; (try simp only []); omega) (SlRows.keep hk9 hrb))))) (by omega) (by omega) hq30d (by omega) (Nat.le_refl _) (CWc.of_keep ((((hk.trans hk9).step hx11 (by intros; (try simp only [] at *); omega)).trans hk12).trans hk13)) hokd) Try.call40 rfl rfl) (by rintro _ w14 ⟨⟨p14, rfl⟩, hC14, hk14⟩ _; exact hk14.mono (fun _ _ h => h.elim)) ?_
      rintro _ w14 ⟨⟨p14, rfl⟩, hC14, hk14⟩
      have hk14' := hk14.size
      refine X.dE (i := 8) (by kernel_rfl) rfl (X.dwN rfl) (X.litKF KR1_flat (K := KR1) (xs := [Operand.tmp 84, Operand.tmp 88]) (vs := [.iface 108 p13, .iface 108 p14]) (ys := [.iface 108 p13, .iface 108 p14]) Try.underlying97 Try.sizeOf72 Try.zeroValue72 rfl rfl rfl rfl rfl reps2I) (by rintro _ w15 ⟨rfl, hs15, hB15, hk15, hz15⟩ _; exact hk15.mono (fun _ _ h => h.elim)) ?_
      rintro _ w15 ⟨rfl, hs15, hB15, hk15, hz15⟩
      refine X.dE (i := 9) (by kernel_rfl) rfl (X.dwN rfl) (X.callE (CSum2_c (B0 := w.heap.size) (w0 := w) _ hs15 (hC13.keep (hk14.trans hk15)) (hC14.keep hk15) (by omega) (by omega) (by omega) (by omega) (by omega) (Nat.le_refl _) (CWc.of_keep ((((((hk.trans hk9).step hx11 (by intros; (try simp only [] at *); omega)).trans hk12).trans hk13).trans hk14).trans hk15)) (sums_ok hokt) (sums_ok hokd)) Try.call44 rfl rfl) (by rintro _ w16 ⟨⟨p16, rfl⟩, hC16, hk16⟩ _; exact hk16.mono (fun _ _ h => h.elim)) ?_
      rintro _ w16 ⟨⟨p16, rfl⟩, hC16, hk16⟩
      have hk16' := hk16.size
      refine X.dE (i := 10) (by kernel_rfl) rfl (X.dwN rfl) (X.callE (restc_b _ (CVC.cur hC16) (by omega) (fun k hk => by (try simp only [] at *); omega) (two_lt (sums_lt hq30t (by omega)) (sums_lt hq30d (by omega)))) Try.call39 rfl rfl) (by rintro _ w17 ⟨v17, rfl, hM17, hx17⟩ _; exact hx17.mono (fun k _ h => by (try simp only [] at *); omega)) ?_
      rintro _ w17 ⟨v17, rfl, hM17, hx17⟩
      have hx17' := hx17.size
      refine X.dTake 11 rfl (by kernel_rfl) (by kernel_rfl) (by kernel_rfl) (X.dwN rfl) (fun w' hk' => X.move rfl) ?_
      refine X.dTake 12 rfl (by kernel_rfl) (by kernel_rfl) (by kernel_rfl) (X.dwN rfl) (fun w' hk' => X.extr rfl rfl) ?_
      refine X.dTake 13 rfl (by kernel_rfl) (by kernel_rfl) (by kernel_rfl) (X.dwN rfl) (fun w' hk' => X.extr rfl rfl) ?_
      refine X.dTake 14 rfl (by kernel_rfl) (by kernel_rfl) (by kernel_rfl) (X.dwN rfl) (fun w' hk' => X.assign rfl) ?_
      refine X.dStep (i := 15) (by kernel_rfl) rfl (X.dwN rfl) (X.assign (v := .bool _) rfl) (fun h => absurd h (by decide)) ?_
      refine X.dEnd (by kernel_rfl) ?_
      refine X.seq ?_
      refine X.region ?_
      refine X.opw X.wN rfl (X.move (v := .bool true) rfl) ?_
      refine X.opw X.wN rfl (X.move (v := .bool true) rfl) ?_
      refine X.opw (X.wG rfl rfl rfl) rfl (X.move (v := .bool true) rfl) ?_
      refine X.opw X.wN rfl (X.pickT (v := .bool true) rfl rfl) ?_
      refine X.opw X.wN rfl (X.move (v := .bool true) rfl) ?_
      refine X.opw (X.wG rfl rfl rfl) rfl (X.move (v := .bool true) rfl) ?_
      refine X.opw X.wN rfl (X.pickT (v := .bool true) rfl rfl) ?_
      refine X.opw X.wN rfl (X.move (v := .bool true) rfl) ?_
      refine X.opw (X.wG rfl rfl rfl) rfl (X.move (v := .slice _ _ _) rfl) ?_
      refine X.opw (X.wG rfl rfl rfl) rfl (X.move rfl) ?_
      have q19 := ((hM11.keep ((((hk12.trans hk13).trans hk14).trans hk15).trans hk16)).ext hx17 (by intros; (try simp only []); omega) (by intros; (try simp only []); omega)).slF KCt_flat 0 (fun _ _ => Nat.zero_le _)
      obtain ⟨A19, c19, rfl, hc19, hs19⟩ := q19
      refine X.opE (X.wG rfl rfl rfl) rfl (X.callE (R07Same_c (B0 := w.heap.size) (w0 := w) _ (((((hs5.keep hwl2).keep hk9).ext hx11 (by intros; (try simp only []); omega)).keep ((((hk12.trans hk13).trans hk14).trans hk15).trans hk16)).ext hx17 (by intros; (try simp only []); omega)) hs19 (CWc.of_keep ((((((((hk.trans hk9).step hx11 (by intros; (try simp only [] at *); omega)).trans hk12).trans hk13).trans hk14).trans hk15).trans hk16).step hx17 (by intros; (try simp only [] at *); omega))) (sums_ok hok) (sums_ok hokr)) Try.call41 rfl rfl) ?_
      rintro _ w18 ⟨rfl, hk18⟩
      have hk18' := hk18.size
      refine X.opw X.wN rfl (X.pickT (v := .bool _) rfl rfl) ?_
      refine X.opw X.wN rfl (X.move (v := .bool _) rfl) ?_
      refine X.forkO 106 rfl (fun h106 => ?_) (fun h106 => ?_)
      · refine X.opw (X.wG rfl rfl rfl) rfl (X.move (v := .slice _ _ _) rfl) ?_
        refine X.opw (X.wG rfl rfl rfl) rfl (X.move rfl) ?_
        have q21 := (hM17.keep hk18).slF KCt_flat 0 (fun _ _ => Nat.zero_le _)
        obtain ⟨A21, c21, rfl, hc21, hs21⟩ := q21
        refine X.opE (X.wG rfl rfl rfl) rfl (X.callE (R07Same_c (B0 := w.heap.size) (w0 := w) _ ((((((hs5.keep hwl2).keep hk9).ext hx11 (by intros; (try simp only []); omega)).keep ((((hk12.trans hk13).trans hk14).trans hk15).trans hk16)).ext hx17 (by intros; (try simp only []); omega)).keep hk18) hs21 (CWc.of_keep (((((((((hk.trans hk9).step hx11 (by intros; (try simp only [] at *); omega)).trans hk12).trans hk13).trans hk14).trans hk15).trans hk16).step hx17 (by intros; (try simp only [] at *); omega)).trans hk18)) (sums_ok hok) (two_ok (sums_ok hokt) (sums_ok hokd))) Try.call41 rfl rfl) ?_
        rintro _ w20 ⟨rfl, hk20⟩
        have hk20' := hk20.size
        refine X.opw X.wN rfl (X.pickT (v := .bool _) rfl rfl) ?_
        refine X.opw X.wN rfl (X.move (v := .bool _) rfl) ?_
        refine X.forkO 111 rfl (fun h111 => ?_) (fun h111 => ?_)
        · refine X.opE (X.wG rfl rfl rfl) rfl (X.callE (alive_c _) Try.call14 rfl rfl) ?_
          rintro _ w22 ⟨rfl, hk22⟩
          have hk22' := hk22.size
          refine X.opw X.wN rfl (X.pickT (v := .bool _) rfl rfl) ?_
          refine X.opw X.wN rfl (X.assign (v := .bool _) rfl) ?_
          refine X.opsEnd ?_
          refine X.ret1 (v := (.bool _)) Try.func10 Try.results10 rfl ?_
          exact ⟨rfl, (((((((((((hk.trans hk9).step hx11 (by intros; (try simp only [] at *); omega)).trans hk12).trans hk13).trans hk14).trans hk15).trans hk16).step hx17 (by intros; (try simp only [] at *); omega)).trans hk18).trans hk20).trans hk22)⟩
        · exact absurd hA2 (of_decide_eq_false h111)
      · exact absurd hA1 (of_decide_eq_false h106)
end Go.Proofs.Ytgfficbkajcdpaa
