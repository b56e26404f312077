/- Once. -/
import Derived.Test.YtgfficbkajcdpaaMergeN
import Derived.Test.YtgfficbkajcdpaaProg
namespace Go.Proofs.Ytgfficbkajcdpaa
open Go Go.Proofs.Ytgfficbkajcdpaa.X
set_option linter.unusedVariables false
set_option linter.unusedSimpArgs false
def onceL : Option TH → List TH → List TH
  | _, [] => []
  | none, x :: xs => x :: onceL (some x) xs
  | some p, x :: xs => if p.1 = x.1 then onceL (some p) xs else x :: onceL (some x) xs
theorem once_new {p : Option TH} {x : TH} {xs : List TH} (h : p = none ∨ (p.getD (0, 0)).1 ≠ x.1) : onceL p (x :: xs) = x :: onceL (some x) xs := by
  cases p with
  | none => rfl
  | some p => rw [onceL, if_neg (by simpa using h)]
theorem once_old {p : Option TH} {x : TH} {xs : List TH} (h : p ≠ none) (h2 : (p.getD (0, 0)).1 = x.1) : onceL p (x :: xs) = onceL p xs := by
  cases p with
  | none => exact absurd rfl h
  | some p => rw [onceL, if_pos (by simpa using h2)]
theorem once_len : ∀ (xs : List TH) (p : Option TH), (onceL p xs).length ≤ xs.length
  | [], p => by cases p <;> exact Nat.le_refl _
  | x :: xs, none => by have := once_len xs (some x); simp [onceL]; omega
  | x :: xs, some p => by
    have := once_len xs (some x)
    have := once_len xs (some p)
    rw [onceL]; split <;> simp <;> omega
theorem cmp_eq {nc : Int} {a b : Int} (h1 : nc < 0 ↔ a < b) (h2 : 0 < nc ↔ b < a) : nc = 0 ↔ a = b := by
  constructor
  · intro h; have := mt h1.2 (by omega); have := mt h2.2 (by omega); omega
  · intro h; have := mt h1.1 (by omega); have := mt h2.1 (by omega); omega
theorem last_at {l : List TH} (h : l ≠ []) : ∃ z, l[l.length - 1]? = some z ∧ l.getLast? = some z := by
  refine ⟨l.getLast h, ?_, List.getLast?_eq_some_getLast h⟩
  rw [← List.getLast?_eq_getElem?]; exact List.getLast?_eq_some_getLast h
-- f27 "pedigree/pedigreeref09.Once" params [24] results [24] -> [(ResultVar.tmp 2)] nfree 0 ntmps 36 names ["
set_option maxHeartbeats 4000000 in
set_option maxRecDepth 100000 in
theorem ROnce_c {lo hi : Nat} {A : Option Addr} {n c : Nat} {l : List TH} (w : World) (hs : Sl KTh lo hi w A n l) (hn : n ≤ 1000000) : Ret Try.prog 27 #[.slice A n c] w fun r w' => Fresh KTh 29 w w' r (onceL none l) := by
  have hl := hs.len
  refine X.enter Try.func27 rfl Try.ntmps27 rfl ?_
  refine X.seq ?_
  refine X.region ?_
  refine X.opw X.wN rfl (X.assign rfl) ?_
  refine X.opsEnd ?_
  refine X.seq ?_
  refine X.region ?_
  refine X.opw X.wN rfl (X.assign rfl) ?_
  refine X.opsEnd ?_
  refine X.seq ?_
  refine X.seq ?_
  refine X.region ?_
  refine X.opw X.wN rfl (X.assign rfl) ?_
  refine X.opsEnd ?_
  refine X.block ?_
  -- LOOP live: 0=l, 3=out*, 4=i*
  refine X.loopL (σ := Nat × Value × List TH) (fun s => [(0, .slice A n c), (3, s.2.1), (4, .int .i64 (s.1 : Int))]) (fun s w' => s.1 ≤ n ∧ s.2.2.length ≤ s.1 ∧ s.2.2 ++ onceL s.2.2.getLast? (l.drop s.1) = onceL none l ∧ Mine KTh 29 (fun k => w.heap.size ≤ k) 0 0 w' s.2.1 s.2.2 ∧ Keep w w') (fun s => n - s.1) (0, _, []) ⟨rfl, rfl, rfl, trivial⟩ ⟨Nat.zero_le _, Nat.zero_le _, by simp, Mine.nil _ _ _ _ _ _, (Keep.refl _)⟩ ?_
  rintro ⟨i, v, out⟩ b0 wl ⟨hi, hol, ho, hM0, hk⟩ hback
  dsimp only
  simp only at hi hol ho hM0
  have hk' := hk.size
  refine X.seq ?_
  refine X.seq ?_
  refine X.region ?_
  refine X.opw X.wN rfl (X.move (v := .int .i64 _) rfl) ?_
  refine X.opw X.wN rfl (X.move (v := .slice _ _ _) rfl) ?_
  refine X.opw X.wN rfl (X.lenSl Try.underlying24 rfl) ?_
  refine X.opP X.wN rfl rfl (X.lss rfl rfl) (fun h8 => ?_) (fun h8 => ?_)
  · obtain ⟨x, hx⟩ := get2 i hl (by omega)
    refine X.opsEnd ?_
    refine X.condT rfl ?_
    refine X.skip ?_
    refine X.seq ?_
    refine X.block ?_
    refine X.seq ?_
    refine X.regionD (fun _ => False) 17 (by kernel_rfl) (by kernel_rfl) (fun w1 hk1 hz1 => ?_)
    refine X.dTake 0 rfl (by kernel_rfl) (by kernel_rfl) (by kernel_rfl) (X.dwN rfl) (fun w' hk' => X.move rfl) ?_
    have q2 := (hM0.keep hk1).slF KTh_flat 0 (fun _ _ => Nat.zero_le _)
    obtain ⟨A2, c2, rfl, hc2, hs2⟩ := q2
    refine X.dTake 1 rfl (by kernel_rfl) (by kernel_rfl) (by kernel_rfl) (X.dwN rfl) (fun w' hk' => X.lenSl Try.underlying24 rfl) ?_
    refine X.dTake 2 rfl (by kernel_rfl) (by kernel_rfl) (by kernel_rfl) (X.dwN rfl) (fun w' hk' => X.eqI rfl rfl) ?_
    refine X.dTake 3 rfl (by kernel_rfl) (by kernel_rfl) (by kernel_rfl) (X.dwN rfl) (fun w' hk' => X.move (v := .bool _) rfl) ?_
    refine X.dFork 14 rfl (fun h14 => ?_) (fun h14 => ?_)
    · have hout : out = [] := List.eq_nil_of_length_eq_zero (by have := of_decide_eq_true h14; omega)
      have hnew : out.getLast? = none ∨ ((out.getLast?).getD (0, 0)).1 ≠ x.1 := .inl (by rw [hout]; rfl)
      refine X.dTakeS 4 rfl (by kernel_rfl) (by kernel_rfl) (by kernel_rfl) rfl rfl rfl rfl ?_
      refine X.dTakeS 5 rfl (by kernel_rfl) (by kernel_rfl) (by kernel_rfl) rfl rfl rfl rfl ?_
      refine X.dTakeS 6 rfl (by kernel_rfl) (by kernel_rfl) (by kernel_rfl) rfl rfl rfl rfl ?_
      refine X.dTakeS 7 rfl (by kernel_rfl) (by kernel_rfl) (by kernel_rfl) rfl rfl rfl rfl ?_
      refine X.dTakeS 8 rfl (by kernel_rfl) (by kernel_rfl) (by kernel_rfl) rfl rfl rfl rfl ?_
      refine X.dTakeS 9 rfl (by kernel_rfl) (by kernel_rfl) (by kernel_rfl) rfl rfl rfl rfl ?_
      refine X.dTakeS 10 rfl (by kernel_rfl) (by kernel_rfl) (by kernel_rfl) rfl rfl rfl rfl ?_
      refine X.dSkip (i := 11) (by kernel_rfl) rfl rfl rfl rfl rfl ?_
      refine X.dSkip (i := 12) (by kernel_rfl) rfl rfl rfl rfl rfl ?_
      refine X.dSkip (i := 13) (by kernel_rfl) rfl rfl rfl rfl rfl ?_
      refine X.dSkip (i := 14) (by kernel_rfl) rfl rfl rfl rfl rfl ?_
      refine X.dSkip (i := 15) (by kernel_rfl) rfl rfl rfl rfl rfl ?_
      refine X.dTake 16 rfl (by kernel_rfl) (by kernel_rfl) (by kernel_rfl) (X.dwN rfl) (fun w' hk' => X.pickT (v := .bool true) rfl rfl) ?_
      refine X.dEnd (by kernel_rfl) ?_
      refine X.condT rfl ?_
      refine X.region ?_
      refine X.opw X.wN rfl (X.move rfl) ?_
      refine X.opw X.wN rfl (X.move (v := .slice _ _ _) rfl) ?_
      refine X.opw X.wN rfl (X.move (v := .int .i64 _) rfl) ?_
      refine X.opw X.wN rfl (X.idxS (hs.keep (hk.trans hk1)) Try.underlying24 Try.sizeOf29 rfl rfl ⟨by omega, by omega⟩) ?_
      refine X.opw X.wN rfl (X.loadSN Try.isAgg29 Try.sizeOf29 (hs.keep (hk.trans hk1)) hx rfl (fun _ h => h.1) rfl) ?_
      refine X.opE X.wN rfl (X.litKF KTh_flat (K := KTh) (xs := [Operand.tmp 32]) (vs := [evT x]) (ys := [x]) Try.underlying24 Try.sizeOf29 Try.zeroValue29 rfl rfl rfl rfl rfl (repsT x)) ?_
      rintro _ w3 ⟨rfl, hs3, hB3, hk3, hz3⟩
      refine X.opE X.wN rfl (X.appE (K := KTh) (S := fun k => w.heap.size ≤ k) KTh_flat Try.underlying24 ETh rfl rfl (hM0.keep (hk1.trans hk3)) hs3 (by (try simp only [List.length_append, List.length_cons, List.length_nil, List.length_take, List.length_drop, List.length_map, List.length_range]); omega) (by intros; (try simp only [] at *); omega)) ?_
      rintro v4 w4 ⟨hM4, hx4⟩
      have hx4' := hx4.size
      refine X.opw X.wN rfl (X.assign rfl) ?_
      refine X.opsEnd ?_
      refine X.inBlock ?_
      refine X.region ?_
      refine X.opw X.wN rfl (X.move (v := .int .i64 _) rfl) ?_
      refine X.opw X.wN rfl (X.add rfl rfl (X.w_i64 (by omega))) ?_
      refine X.opw X.wN rfl (X.assign (v := .int .i64 _) rfl) ?_
      refine X.opsEnd ?_
      refine hback (i + 1, _, out ++ [x]) _ _ ⟨rfl, rfl, rfl, trivial⟩ ⟨by dsimp only; omega, by dsimp only; rw [List.length_append]; simp only [List.length_cons, List.length_nil]; omega, by dsimp only; rw [← ho, drop_at hx, once_new hnew]; simp, hM4, (((hk.trans hk1).trans hk3).step hx4 (by intros; (try simp only [] at *); omega))⟩ (by dsimp only; omega)
    · have hout : out ≠ [] := fun h => by rw [h] at h14; simp at h14
      obtain ⟨z, hz, hzl⟩ := last_at hout
      have hlo : 0 < out.length := Nat.pos_of_ne_zero (fun h => hout (List.eq_nil_of_length_eq_zero h))
      refine X.dTake 4 rfl (by kernel_rfl) (by kernel_rfl) (by kernel_rfl) (X.dwG rfl rfl rfl) (fun w' hk' => X.move rfl) ?_
      refine X.dTake 5 rfl (by kernel_rfl) (by kernel_rfl) (by kernel_rfl) (X.dwG rfl rfl rfl) (fun w' hk' => X.move rfl) ?_
      refine X.dTake 6 rfl (by kernel_rfl) (by kernel_rfl) (by kernel_rfl) (X.dwG rfl rfl rfl) (fun w' hk' => X.lenSl Try.underlying24 rfl) ?_
      refine X.dTake 7 rfl (by kernel_rfl) (by kernel_rfl) (by kernel_rfl) (X.dwG rfl rfl rfl) (fun w' hk' => X.sub (c := ((out.length - 1 : Nat) : Int)) rfl rfl (by rw [X.w_i64 (by omega)]; omega)) ?_
      refine X.dTake 8 rfl (by kernel_rfl) (by kernel_rfl) (by kernel_rfl) (X.dwG rfl rfl rfl) (fun w' hk' => X.idxS (hs2.keep hk') Try.underlying24 Try.sizeOf29 rfl rfl ⟨by omega, by omega⟩) ?_
      refine X.dTake 9 rfl (by kernel_rfl) (by kernel_rfl) (by kernel_rfl) (X.dwG rfl rfl rfl) (fun w' hk' => X.loadSN Try.isAgg29 Try.sizeOf29 (hs2.keep hk') hz rfl (fun _ h => h.1) rfl) ?_
      refine X.dTake 10 rfl (by kernel_rfl) (by kernel_rfl) (by kernel_rfl) (X.dwG rfl rfl rfl) (fun w' hk' => X.move (v := .slice _ _ _) rfl) ?_
      refine X.dTake 11 rfl (by kernel_rfl) (by kernel_rfl) (by kernel_rfl) (X.dwG rfl rfl rfl) (fun w' hk' => X.move (v := .int .i64 _) rfl) ?_
      refine X.dTake 12 rfl (by kernel_rfl) (by kernel_rfl) (by kernel_rfl) (X.dwG rfl rfl rfl) (fun w' hk' => X.idxS (hs.keep ((hk.trans hk1).trans hk')) Try.underlying24 Try.sizeOf29 rfl rfl ⟨by omega, by omega⟩) ?_
      refine X.dTake 13 rfl (by kernel_rfl) (by kernel_rfl) (by kernel_rfl) (X.dwG rfl rfl rfl) (fun w' hk' => X.loadSN Try.isAgg29 Try.sizeOf29 (hs.keep ((hk.trans hk1).trans hk')) hx rfl (fun _ h => h.1) rfl) ?_
      refine X.dE (i := 14) (by kernel_rfl) rfl (X.dwG rfl rfl rfl) (X.callE (Compare_c z x _) Try.call17 rfl rfl) (by rintro _ w5 ⟨nc5, rfl, hlt5, hgt5, hk5⟩ _; exact hk5.mono (fun _ _ h => h.elim)) ?_
      rintro _ w5 ⟨nc5, rfl, hlt5, hgt5, hk5⟩
      have hk5' := hk5.size
      refine X.dTake 15 rfl (by kernel_rfl) (by kernel_rfl) (by kernel_rfl) (X.dwG rfl rfl rfl) (fun w' hk' => X.neI rfl rfl) ?_
      refine X.dTake 16 rfl (by kernel_rfl) (by kernel_rfl) (by kernel_rfl) (X.dwN rfl) (fun w' hk' => X.pickF (v := .bool _) rfl rfl) ?_
      refine X.dEnd (by kernel_rfl) ?_
      refine X.condB rfl (fun hc => ?_) (fun hc => ?_)
      · have hnew : out.getLast? = none ∨ ((out.getLast?).getD (0, 0)).1 ≠ x.1 := .inr (by rw [hzl]; intro h; have := (cmp_eq hlt5 hgt5).2 h; simp [this] at hc)
        refine X.region ?_
        refine X.opw X.wN rfl (X.move rfl) ?_
        refine X.opw X.wN rfl (X.move (v := .slice _ _ _) rfl) ?_
        refine X.opw X.wN rfl (X.move (v := .int .i64 _) rfl) ?_
        refine X.opw X.wN rfl (X.idxS (hs.keep ((hk.trans hk1).trans hk5)) Try.underlying24 Try.sizeOf29 rfl rfl ⟨by omega, by omega⟩) ?_
        refine X.opw X.wN rfl (X.loadSN Try.isAgg29 Try.sizeOf29 (hs.keep ((hk.trans hk1).trans hk5)) hx rfl (fun _ h => h.1) rfl) ?_
        refine X.opE X.wN rfl (X.litKF KTh_flat (K := KTh) (xs := [Operand.tmp 32]) (vs := [evT x]) (ys := [x]) Try.underlying24 Try.sizeOf29 Try.zeroValue29 rfl rfl rfl rfl rfl (repsT x)) ?_
        rintro _ w6 ⟨rfl, hs6, hB6, hk6, hz6⟩
        refine X.opE X.wN rfl (X.appE (K := KTh) (S := fun k => w.heap.size ≤ k) KTh_flat Try.underlying24 ETh rfl rfl (hM0.keep ((hk1.trans hk5).trans hk6)) hs6 (by (try simp only [List.length_append, List.length_cons, List.length_nil, List.length_take, List.length_drop, List.length_map, List.length_range]); omega) (by intros; (try simp only [] at *); omega)) ?_
        rintro v7 w7 ⟨hM7, hx7⟩
        have hx7' := hx7.size
        refine X.opw X.wN rfl (X.assign rfl) ?_
        refine X.opsEnd ?_
        refine X.inBlock ?_
        refine X.region ?_
        refine X.opw X.wN rfl (X.move (v := .int .i64 _) rfl) ?_
        refine X.opw X.wN rfl (X.add rfl rfl (X.w_i64 (by omega))) ?_
        refine X.opw X.wN rfl (X.assign (v := .int .i64 _) rfl) ?_
        refine X.opsEnd ?_
        refine hback (i + 1, _, out ++ [x]) _ _ ⟨rfl, rfl, rfl, trivial⟩ ⟨by dsimp only; omega, by dsimp only; rw [List.length_append]; simp only [List.length_cons, List.length_nil]; omega, by dsimp only; rw [← ho, drop_at hx, once_new hnew]; simp, hM7, ((((hk.trans hk1).trans hk5).trans hk6).step hx7 (by intros; (try simp only [] at *); omega))⟩ (by dsimp only; omega)
      · have hold : ((out.getLast?).getD (0, 0)).1 = x.1 := by rw [hzl]; exact (cmp_eq hlt5 hgt5).1 (by simpa using hc)
        refine X.skip ?_
        refine X.inBlock ?_
        refine X.region ?_
        refine X.opw X.wN rfl (X.move (v := .int .i64 _) rfl) ?_
        refine X.opw X.wN rfl (X.add rfl rfl (X.w_i64 (by omega))) ?_
        refine X.opw X.wN rfl (X.assign (v := .int .i64 _) rfl) ?_
        refine X.opsEnd ?_
        refine hback (i + 1, _, out) _ _ ⟨rfl, rfl, rfl, trivial⟩ ⟨by dsimp only; omega, by dsimp only; omega, by dsimp only; rw [← ho, drop_at hx, once_old (by rw [hzl]; simp) hold], (hM0.keep (hk1.trans hk5)), ((hk.trans hk1).trans hk5)⟩ (by dsimp only; omega)
  · refine X.opsEnd ?_
    refine X.condF rfl ?_
    refine X.exit rfl ?_
    refine X.seq ?_
    refine X.region ?_
    refine X.opw X.wN rfl (X.move rfl) ?_
    refine X.opw X.wN rfl (X.assign rfl) ?_
    refine X.opsEnd ?_
    refine X.ret1 Try.func27 Try.results27 rfl ?_
    exact ⟨by rw [List.drop_of_length_le (show l.length ≤ i by omega)] at ho; rw [show out = onceL none l by rw [← ho]; cases out.getLast? <;> simp [onceL]] at hM0; exact hM0, hk⟩
-- f53 "pedigree/merge.Once[pedigree/pedigreeref09.Thing]$1" params [] results [29, 4] -> [(ResultVar.cell 4 2
set_option maxHeartbeats 4000000 in
set_option maxRecDepth 100000 in
theorem Once1_c {B c3 c6 c2 c5 : Nat} {Tc : Nat → Prop} {p : Option TH} {xs0 : List TH} {cv q : Value} (w : World) (hbl : Blk w c3 [.iface 84 q] 33 ∧ Blk w c6 [.bool p.isSome] 4 ∧ Blk w c2 [cv] 35 ∧ Blk w c5 [.int .i8 (p.getD (0, 0)).1, .int .i64 (p.getD (0, 0)).2] 29) (hC : Cur Try.prog evT (0, 0) NX B Tc q xs0 w) (hBs : B ≤ w.heap.size) (hB5 : B ≤ c5) (hB6 : B ≤ c6) (hsep : ∀ k, Tc k → k ≠ c3 ∧ k ≠ c6 ∧ k ≠ c2 ∧ k ≠ c5 ∧ k < w.heap.size) (hne : c3 ≠ c5 ∧ c3 ≠ c6 ∧ c2 ≠ c5 ∧ c2 ≠ c6 ∧ c5 ≠ c6) (hcmp : CmpOk cv) :
    Ret Try.prog 53 #[.pointer (some ⟨c3, 0, none⟩), .pointer (some ⟨c6, 0, none⟩), .pointer (some ⟨c2, 0, none⟩), .pointer (some ⟨c5, 0, none⟩)] w fun r w' => r = hdV evT (0, 0) (onceL p xs0) ∧ Ext (fun k => Tc k ∨ k = c5 ∨ k = c6) w w' ∧ (onceL p xs0 ≠ [] → ∃ x xs, (onceL p xs0).tail = onceL (some x) xs ∧ Cur Try.prog evT (0, 0) NX B Tc q xs w' ∧ (Blk w' c3 [.iface 84 q] 33 ∧ Blk w' c6 [.bool true] 4 ∧ Blk w' c2 [cv] 35 ∧ Blk w' c5 [.int .i8 x.1, .int .i64 x.2] 29)) := by
  obtain ⟨h3, h6, h2, h5⟩ := hbl
  have h3l := h3.lt
  have h6l := h6.lt
  have h2l := h2.lt
  have h5l := h5.lt
  refine X.enter Try.func53 rfl Try.ntmps53 rfl ?_
  refine X.seq ?_
  refine X.region ?_
  refine X.opE X.wN rfl (X.allocE Try.zeroValue29 rfl) ?_
  rintro _ w1 ⟨rfl, hB1, hk1, hz1⟩
  refine X.opw X.wN rfl (X.assign rfl) ?_
  refine X.opsEnd ?_
  refine X.block ?_
  -- LOOP live: 0, 1, 2, 3, 4=x
  refine X.loopL (σ := TH × List TH) (fun s => [(0, .pointer (some ⟨c3, 0, none⟩)), (1, .pointer (some ⟨c6, 0, none⟩)), (2, .pointer (some ⟨c2, 0, none⟩)), (3, .pointer (some ⟨c5, 0, none⟩)), (4, .pointer (some ⟨w.heap.size, 0, none⟩))]) (fun s w' => onceL p s.2 = onceL p xs0 ∧ (Blk w' c3 [.iface 84 q] 33 ∧ Blk w' c6 [.bool p.isSome] 4 ∧ Blk w' c2 [cv] 35 ∧ Blk w' c5 [.int .i8 (p.getD (0, 0)).1, .int .i64 (p.getD (0, 0)).2] 29) ∧ Blk w' w.heap.size [.int .i8 s.1.1, .int .i64 s.1.2] 29 ∧ Cur Try.prog evT (0, 0) NX B Tc q s.2 w' ∧ Ext (fun k => Tc k ∨ k = c5 ∨ k = c6) w w' ∧ w.heap.size < w'.heap.size) (fun s => s.2.length) ((0, 0), xs0) ⟨rfl, rfl, rfl, rfl, rfl, trivial⟩ ⟨rfl, ⟨(h3.keep hk1), (h6.keep hk1), (h2.keep hk1), (h5.keep hk1)⟩, hB1, hC.keep hk1, hk1.mono (fun _ _ h => h.elim), by omega⟩ ?_
  rintro ⟨z, xs⟩ b0 wl ⟨hol, ⟨hBa, hBb, hBc, hBd⟩, hBz, hCc, hE, hwl⟩ hback
  dsimp only
  simp only at hol hBz hCc
  refine X.block ?_
  refine X.seq ?_
  refine X.seq ?_
  refine X.region ?_
  refine X.opw X.wN rfl (X.load1B Try.isAgg33 hBa rfl rfl) ?_
  refine X.opE X.wN rfl (X.invokeE rfl (next_m _) hCc.next Try.call98) ?_
  rintro _ w2 ⟨rfl, hx2, hC2⟩
  have hx2' := hx2.size
  refine X.opw X.wN rfl (X.move rfl) ?_
  refine X.opw X.wN rfl (X.extr rfl rfl) ?_
  refine X.opw X.wN rfl (X.extr rfl rfl) ?_
  refine X.opE X.wN rfl (X.storeNE Try.sizeOf29 (hBz.ext hx2 (by intro h; have := hsep _ h; omega)) rfl rfl rfl rfl (fun u hu => by simp at hu; rcases hu with rfl | rfl <;> rfl)) ?_
  rintro _ w3 ⟨hB3, hx3, hz3⟩
  refine X.opw X.wN rfl (X.assign (v := .bool _) rfl) ?_
  refine X.opsEnd ?_
  refine X.seq ?_
  refine X.region ?_
  refine X.opw X.wN rfl (X.move (v := .bool _) rfl) ?_
  refine X.opw X.wN rfl (X.not_ rfl) ?_
  refine X.opsEnd ?_
  refine X.condB rfl (fun hc => ?_) (fun hc => ?_)
  · obtain rfl : xs = [] := by simpa using hc
    refine X.seq ?_
    refine X.region ?_
    refine X.opw X.wN rfl (X.loadNB Try.isAgg29 Try.sizeOf29 hB3 rfl rfl rfl) ?_
    refine X.opE X.wN rfl (X.storeNE Try.sizeOf29 hB3 rfl rfl rfl rfl (fun u hu => by simp at hu; rcases hu with rfl | rfl <;> rfl)) ?_
    rintro _ w4 ⟨hB4, hx4, hz4⟩
    refine X.opw X.wN rfl (X.assign rfl) ?_
    refine X.opsEnd ?_
    refine X.ret_unw (X.unwR2 Try.func53 Try.results53 (X.ResOk.cell rfl (X.lvN Try.isAgg29 Try.sizeOf29 hB4 rfl)) (show X.ResOk _ _ _ (.tmp 5) (.bool _) from rfl) ?_)
    rw [← hol]
    have e0 : onceL p [] = [] := by cases p <;> rfl
    rw [e0]
    exact ⟨rfl, (Ext.andThen (Ext.andThen (Ext.andThen hE hx2 (by intro k h1 h2; first | exact (h2 : False).elim | exact .inl h2 | exact .inr (.inl h2) | exact .inr (.inr h2) | exact h2 | (exfalso; (try simp only [] at *); omega))) hx3 (by intro k h1 h2; first | exact (h2 : False).elim | exact .inl h2 | exact .inr (.inl h2) | exact .inr (.inr h2) | exact h2 | (exfalso; (try simp only [] at *); omega))) hx4 (by intro k h1 h2; first | exact (h2 : False).elim | exact .inl h2 | exact .inr (.inl h2) | exact .inr (.inr h2) | exact h2 | (exfalso; (try simp only [] at *); omega))), fun h => absurd rfl h⟩
  · obtain ⟨x, xs', rfl⟩ : ∃ x xs', xs = x :: xs' := by
      cases xs with
      | nil => simp at hc
      | cons x xs' => exact ⟨x, xs', rfl⟩
    refine X.skip ?_
    refine X.seq ?_
    refine X.region ?_
    refine X.opw X.wN rfl (X.load1B Try.isAgg4 ((hBb.ext hx2 (by intro h; have := hsep _ h; omega)).ext hx3 (by first | (intros; (try simp only []); omega) | (intro h; have := hsep _ h; omega))) rfl rfl) ?_
    refine X.opw X.wN rfl (X.not_ rfl) ?_
    refine X.opw X.wN rfl (X.move (v := .bool _) rfl) ?_
    refine X.forkO 16 rfl (fun h16 => ?_) (fun h16 => ?_)
    · have hnew : p = none ∨ (p.getD (0, 0)).1 ≠ x.1 := .inl (by cases p with
        | none => rfl
        | some p => simp at h16)
      refine X.opS rfl rfl rfl rfl rfl ?_
      refine X.opS rfl rfl rfl rfl rfl ?_
      refine X.opS rfl rfl rfl rfl rfl ?_
      refine X.opS rfl rfl rfl rfl rfl ?_
      refine X.opS rfl rfl rfl rfl rfl ?_
      refine X.opw X.wN rfl (X.pickT (v := .bool true) rfl rfl) ?_
      refine X.opsEnd ?_
      refine X.condT rfl ?_
      refine X.seq ?_
      refine X.region ?_
      refine X.opw X.wN rfl (X.loadNB Try.isAgg29 Try.sizeOf29 hB3 rfl rfl rfl) ?_
      refine X.opE X.wN rfl (X.storeNE Try.sizeOf29 ((hBd.ext hx2 (by intro h; have := hsep _ h; omega)).ext hx3 (by first | (intros; (try simp only []); omega) | (intro h; have := hsep _ h; omega))) rfl rfl rfl rfl (fun u hu => by simp at hu; rcases hu with rfl | rfl <;> rfl)) ?_
      rintro _ w5 ⟨hB5, hx5, hz5⟩
      refine X.opE X.wN rfl (X.storeE Try.sizeOf4 (((hBb.ext hx2 (by intro h; have := hsep _ h; omega)).ext hx3 (by first | (intros; (try simp only []); omega) | (intro h; have := hsep _ h; omega))).ext hx5 (by first | (intros; (try simp only []); omega) | (intro h; have := hsep _ h; omega))) rfl rfl rfl rfl) ?_
      rintro _ w6 ⟨hB6, hx6, hz6⟩
      refine X.opsEnd ?_
      refine X.seq ?_
      refine X.region ?_
      refine X.opw X.wN rfl (X.loadNB Try.isAgg29 Try.sizeOf29 ((hB3.ext hx5 (by first | (intros; (try simp only []); omega) | (intro h; have := hsep _ h; omega))).ext hx6 (by first | (intros; (try simp only []); omega) | (intro h; have := hsep _ h; omega))) rfl rfl rfl) ?_
      refine X.opE X.wN rfl (X.storeNE Try.sizeOf29 ((hB3.ext hx5 (by first | (intros; (try simp only []); omega) | (intro h; have := hsep _ h; omega))).ext hx6 (by first | (intros; (try simp only []); omega) | (intro h; have := hsep _ h; omega))) rfl rfl rfl rfl (fun u hu => by simp at hu; rcases hu with rfl | rfl <;> rfl)) ?_
      rintro _ w7 ⟨hB7, hx7, hz7⟩
      refine X.opw X.wN rfl (X.assign rfl) ?_
      refine X.opsEnd ?_
      refine X.ret_unw (X.unwR2 Try.func53 Try.results53 (X.ResOk.cell rfl (X.lvN Try.isAgg29 Try.sizeOf29 hB7 rfl)) (show X.ResOk _ _ _ (.tmp 5) (.bool _) from rfl) ?_)
      rw [← hol, once_new hnew]
      exact ⟨rfl, (Ext.andThen (Ext.andThen (Ext.andThen (Ext.andThen (Ext.andThen hE hx2 (by intro k h1 h2; first | exact (h2 : False).elim | exact .inl h2 | exact .inr (.inl h2) | exact .inr (.inr h2) | exact h2 | (exfalso; (try simp only [] at *); omega))) hx3 (by intro k h1 h2; first | exact (h2 : False).elim | exact .inl h2 | exact .inr (.inl h2) | exact .inr (.inr h2) | exact h2 | (exfalso; (try simp only [] at *); omega))) hx5 (by intro k h1 h2; first | exact (h2 : False).elim | exact .inl h2 | exact .inr (.inl h2) | exact .inr (.inr h2) | exact h2 | (exfalso; (try simp only [] at *); omega))) hx6 (by intro k h1 h2; first | exact (h2 : False).elim | exact .inl h2 | exact .inr (.inl h2) | exact .inr (.inr h2) | exact h2 | (exfalso; (try simp only [] at *); omega))) hx7 (by intro k h1 h2; first | exact (h2 : False).elim | exact .inl h2 | exact .inr (.inl h2) | exact .inr (.inr h2) | exact h2 | (exfalso; (try simp only [] at *); omega))), fun _ => ⟨x, xs', rfl, ((((hC2.ext hx3 (by intro k hk hk2; refine ⟨?_, fun ht => ?_⟩ <;> ((try simp only [] at *); first | omega | (have := hsep k ht; omega)))).ext hx5 (by intro k hk hk2; refine ⟨?_, fun ht => ?_⟩ <;> ((try simp only [] at *); first | omega | (have := hsep k ht; omega)))).ext hx6 (by intro k hk hk2; refine ⟨?_, fun ht => ?_⟩ <;> ((try simp only [] at *); first | omega | (have := hsep k ht; omega)))).ext hx7 (by intro k hk hk2; refine ⟨?_, fun ht => ?_⟩ <;> ((try simp only [] at *); first | omega | (have := hsep k ht; omega)))), ⟨(((((hBa.ext hx2 (by intro h; have := hsep _ h; omega)).ext hx3 (by first | (intros; (try simp only []); omega) | (intro h; have := hsep _ h; omega))).ext hx5 (by first | (intros; (try simp only []); omega) | (intro h; have := hsep _ h; omega))).ext hx6 (by first | (intros; (try simp only []); omega) | (intro h; have := hsep _ h; omega))).ext hx7 (by first | (intros; (try simp only []); omega) | (intro h; have := hsep _ h; omega))), (hB6.ext hx7 (by first | (intros; (try simp only []); omega) | (intro h; have := hsep _ h; omega))), (((((hBc.ext hx2 (by intro h; have := hsep _ h; omega)).ext hx3 (by first | (intros; (try simp only []); omega) | (intro h; have := hsep _ h; omega))).ext hx5 (by first | (intros; (try simp only []); omega) | (intro h; have := hsep _ h; omega))).ext hx6 (by first | (intros; (try simp only []); omega) | (intro h; have := hsep _ h; omega))).ext hx7 (by first | (intros; (try simp only []); omega) | (intro h; have := hsep _ h; omega))), ((hB5.ext hx6 (by first | (intros; (try simp only []); omega) | (intro h; have := hsep _ h; omega))).ext hx7 (by first | (intros; (try simp only []); omega) | (intro h; have := hsep _ h; omega)))⟩⟩⟩
    · have hp : p ≠ none := fun h => by rw [h] at h16; simp at h16
      refine X.opw (X.wG rfl rfl rfl) rfl (X.load1B Try.isAgg35 ((hBc.ext hx2 (by intro h; have := hsep _ h; omega)).ext hx3 (by first | (intros; (try simp only []); omega) | (intro h; have := hsep _ h; omega))) rfl rfl) ?_
      refine X.opw (X.wG rfl rfl rfl) rfl (X.loadNB Try.isAgg29 Try.sizeOf29 ((hBd.ext hx2 (by intro h; have := hsep _ h; omega)).ext hx3 (by first | (intros; (try simp only []); omega) | (intro h; have := hsep _ h; omega))) rfl rfl rfl) ?_
      refine X.opw (X.wG rfl rfl rfl) rfl (X.loadNB Try.isAgg29 Try.sizeOf29 hB3 rfl rfl rfl) ?_
      refine X.opE (X.wG rfl rfl rfl) rfl ((hcmp (p.getD (0, 0)) x _) _ _ _ _ _ _ _ _ _ rfl rfl) ?_
      rintro _ w8 ⟨nc8, rfl, hlt8, hgt8, hk8⟩
      have hk8' := hk8.size
      refine X.opP (X.wG rfl rfl rfl) rfl rfl (X.neI rfl rfl) (fun h21 => ?_) (fun h21 => ?_)
      · have hnew : p = none ∨ (p.getD (0, 0)).1 ≠ x.1 := .inr (fun h => h21 ((cmp_eq hlt8 hgt8).2 h))
        refine X.opw X.wN rfl (X.pickF (v := .bool true) rfl rfl) ?_
        refine X.opsEnd ?_
        refine X.condT rfl ?_
        refine X.seq ?_
        refine X.region ?_
        refine X.opw X.wN rfl (X.loadNB Try.isAgg29 Try.sizeOf29 (hB3.keep hk8) rfl rfl rfl) ?_
        refine X.opE X.wN rfl (X.storeNE Try.sizeOf29 (((hBd.ext hx2 (by intro h; have := hsep _ h; omega)).ext hx3 (by first | (intros; (try simp only []); omega) | (intro h; have := hsep _ h; omega))).keep hk8) rfl rfl rfl rfl (fun u hu => by simp at hu; rcases hu with rfl | rfl <;> rfl)) ?_
        rintro _ w9 ⟨hB9, hx9, hz9⟩
        refine X.opE X.wN rfl (X.storeE Try.sizeOf4 ((((hBb.ext hx2 (by intro h; have := hsep _ h; omega)).ext hx3 (by first | (intros; (try simp only []); omega) | (intro h; have := hsep _ h; omega))).keep hk8).ext hx9 (by first | (intros; (try simp only []); omega) | (intro h; have := hsep _ h; omega))) rfl rfl rfl rfl) ?_
        rintro _ w10 ⟨hB10, hx10, hz10⟩
        refine X.opsEnd ?_
        refine X.seq ?_
        refine X.region ?_
        refine X.opw X.wN rfl (X.loadNB Try.isAgg29 Try.sizeOf29 (((hB3.keep hk8).ext hx9 (by first | (intros; (try simp only []); omega) | (intro h; have := hsep _ h; omega))).ext hx10 (by first | (intros; (try simp only []); omega) | (intro h; have := hsep _ h; omega))) rfl rfl rfl) ?_
        refine X.opE X.wN rfl (X.storeNE Try.sizeOf29 (((hB3.keep hk8).ext hx9 (by first | (intros; (try simp only []); omega) | (intro h; have := hsep _ h; omega))).ext hx10 (by first | (intros; (try simp only []); omega) | (intro h; have := hsep _ h; omega))) rfl rfl rfl rfl (fun u hu => by simp at hu; rcases hu with rfl | rfl <;> rfl)) ?_
        rintro _ w11 ⟨hB11, hx11, hz11⟩
        refine X.opw X.wN rfl (X.assign rfl) ?_
        refine X.opsEnd ?_
        refine X.ret_unw (X.unwR2 Try.func53 Try.results53 (X.ResOk.cell rfl (X.lvN Try.isAgg29 Try.sizeOf29 hB11 rfl)) (show X.ResOk _ _ _ (.tmp 5) (.bool _) from rfl) ?_)
        rw [← hol, once_new hnew]
        exact ⟨rfl, (Ext.andThen (Ext.andThen (Ext.andThen (Ext.andThen (Ext.andThen (Ext.andThen hE hx2 (by intro k h1 h2; first | exact (h2 : False).elim | exact .inl h2 | exact .inr (.inl h2) | exact .inr (.inr h2) | exact h2 | (exfalso; (try simp only [] at *); omega))) hx3 (by intro k h1 h2; first | exact (h2 : False).elim | exact .inl h2 | exact .inr (.inl h2) | exact .inr (.inr h2) | exact h2 | (exfalso; (try simp only [] at *); omega))) hk8 (by intro k h1 h2; first | exact (h2 : False).elim | exact .inl h2 | exact .inr (.inl h2) | exact .inr (.inr h2) | exact h2 | (exfalso; (try simp only [] at *); omega))) hx9 (by intro k h1 h2; first | exact (h2 : False).elim | exact .inl h2 | exact .inr (.inl h2) | exact .inr (.inr h2) | exact h2 | (exfalso; (try simp only [] at *); omega))) hx10 (by intro k h1 h2; first | exact (h2 : False).elim | exact .inl h2 | exact .inr (.inl h2) | exact .inr (.inr h2) | exact h2 | (exfalso; (try simp only [] at *); omega))) hx11 (by intro k h1 h2; first | exact (h2 : False).elim | exact .inl h2 | exact .inr (.inl h2) | exact .inr (.inr h2) | exact h2 | (exfalso; (try simp only [] at *); omega))), fun _ => ⟨x, xs', rfl, (((((hC2.ext hx3 (by intro k hk hk2; refine ⟨?_, fun ht => ?_⟩ <;> ((try simp only [] at *); first | omega | (have := hsep k ht; omega)))).keep hk8).ext hx9 (by intro k hk hk2; refine ⟨?_, fun ht => ?_⟩ <;> ((try simp only [] at *); first | omega | (have := hsep k ht; omega)))).ext hx10 (by intro k hk hk2; refine ⟨?_, fun ht => ?_⟩ <;> ((try simp only [] at *); first | omega | (have := hsep k ht; omega)))).ext hx11 (by intro k hk hk2; refine ⟨?_, fun ht => ?_⟩ <;> ((try simp only [] at *); first | omega | (have := hsep k ht; omega)))), ⟨((((((hBa.ext hx2 (by intro h; have := hsep _ h; omega)).ext hx3 (by first | (intros; (try simp only []); omega) | (intro h; have := hsep _ h; omega))).keep hk8).ext hx9 (by first | (intros; (try simp only []); omega) | (intro h; have := hsep _ h; omega))).ext hx10 (by first | (intros; (try simp only []); omega) | (intro h; have := hsep _ h; omega))).ext hx11 (by first | (intros; (try simp only []); omega) | (intro h; have := hsep _ h; omega))), (hB10.ext hx11 (by first | (intros; (try simp only []); omega) | (intro h; have := hsep _ h; omega))), ((((((hBc.ext hx2 (by intro h; have := hsep _ h; omega)).ext hx3 (by first | (intros; (try simp only []); omega) | (intro h; have := hsep _ h; omega))).keep hk8).ext hx9 (by first | (intros; (try simp only []); omega) | (intro h; have := hsep _ h; omega))).ext hx10 (by first | (intros; (try simp only []); omega) | (intro h; have := hsep _ h; omega))).ext hx11 (by first | (intros; (try simp only []); omega) | (intro h; have := hsep _ h; omega))), ((hB9.ext hx10 (by first | (intros; (try simp only []); omega) | (intro h; have := hsep _ h; omega))).ext hx11 (by first | (intros; (try simp only []); omega) | (intro h; have := hsep _ h; omega)))⟩⟩⟩
      · have hold := (cmp_eq hlt8 hgt8).1 (Decidable.not_not.1 h21)
        refine X.opw X.wN rfl (X.pickF (v := .bool false) rfl rfl) ?_
        refine X.opsEnd ?_
        refine X.condF rfl ?_
        refine X.skip ?_
        refine X.inBlock ?_
        refine hback (x, xs') _ _ ⟨rfl, rfl, rfl, rfl, rfl, trivial⟩ ⟨(once_old hp hold).symm.trans hol, ⟨(((hBa.ext hx2 (by intro h; have := hsep _ h; omega)).ext hx3 (by first | (intros; (try simp only []); omega) | (intro h; have := hsep _ h; omega))).keep hk8), (((hBb.ext hx2 (by intro h; have := hsep _ h; omega)).ext hx3 (by first | (intros; (try simp only []); omega) | (intro h; have := hsep _ h; omega))).keep hk8), (((hBc.ext hx2 (by intro h; have := hsep _ h; omega)).ext hx3 (by first | (intros; (try simp only []); omega) | (intro h; have := hsep _ h; omega))).keep hk8), (((hBd.ext hx2 (by intro h; have := hsep _ h; omega)).ext hx3 (by first | (intros; (try simp only []); omega) | (intro h; have := hsep _ h; omega))).keep hk8)⟩, (hB3.keep hk8), ((hC2.ext hx3 (by intro k hk hk2; refine ⟨?_, fun ht => ?_⟩ <;> ((try simp only [] at *); first | omega | (have := hsep k ht; omega)))).keep hk8), (Ext.andThen (Ext.andThen (Ext.andThen hE hx2 (by intro k h1 h2; first | exact (h2 : False).elim | exact .inl h2 | exact .inr (.inl h2) | exact .inr (.inr h2) | exact h2 | (exfalso; (try simp only [] at *); omega))) hx3 (by intro k h1 h2; first | exact (h2 : False).elim | exact .inl h2 | exact .inr (.inl h2) | exact .inr (.inr h2) | exact h2 | (exfalso; (try simp only [] at *); omega))) hk8 (by intro k h1 h2; first | exact (h2 : False).elim | exact .inl h2 | exact .inr (.inl h2) | exact .inr (.inr h2) | exact h2 | (exfalso; (try simp only [] at *); omega))), by omega⟩ (by simp)
theorem once_stp {B a b c3 c6 c2 c5 : Nat} {Tc : Nat → Prop} {p : Option TH} {xs0 : List TH} {cv q : Value} {w : World} (hbl : Blk w c3 [.iface 84 q] 33 ∧ Blk w c6 [.bool p.isSome] 4 ∧ Blk w c2 [cv] 35 ∧ Blk w c5 [.int .i8 (p.getD (0, 0)).1, .int .i64 (p.getD (0, 0)).2] 29) (hC : Cur Try.prog evT (0, 0) NX B Tc q xs0 w) (hBa : B ≤ a) (hbw : b ≤ w.heap.size) (hT : ∀ k, Tc k → a ≤ k ∧ k < b) (h3 : a ≤ c3 ∧ c3 < b) (h6 : a ≤ c6 ∧ c6 < b) (h2 : a ≤ c2 ∧ c2 < b) (h5 : a ≤ c5 ∧ c5 < b)
    (hsep : ∀ k, Tc k → k ≠ c3 ∧ k ≠ c6 ∧ k ≠ c2 ∧ k ≠ c5) (hne : c3 ≠ c5 ∧ c3 ≠ c6 ∧ c2 ≠ c5 ∧ c2 ≠ c6 ∧ c5 ≠ c6) (hcmp : CmpOk cv) : Stp Try.prog evT (0, 0) B (fun k => a ≤ k ∧ k < b) (.func (.func 53) #[] #[ptrV c3, ptrV c6, ptrV c2, ptrV c5]) (onceL p xs0) w := by
  refine ⟨fun l w => ∃ p xs0, l = onceL p xs0 ∧ b ≤ w.heap.size ∧ (Blk w c3 [.iface 84 q] 33 ∧ Blk w c6 [.bool p.isSome] 4 ∧ Blk w c2 [cv] 35 ∧ Blk w c5 [.int .i8 (p.getD (0, 0)).1, .int .i64 (p.getD (0, 0)).2] 29) ∧ Cur Try.prog evT (0, 0) NX B Tc q xs0 w, ⟨p, xs0, rfl, hbw, hbl, hC⟩, ?_, ?_⟩
  · rintro l w w' ⟨p, xs, g1, g2, ⟨q3, q6, q2, q5⟩, g4⟩ ha
    have hz := ha.size
    exact ⟨p, xs, g1, by omega, ⟨ha.blk q3 h3, ha.blk q6 h6, ha.blk q2 h2, ha.blk q5 h5⟩, g4.agree (ha.sub hT)⟩
  · rintro l w ⟨p, xs, rfl, g2, g3, g4⟩
    refine YC.of_ret (args := []) (cap := [_, _, _, _]) ((Once1_c w g3 g4 (by omega) (by omega) (by omega) (fun k hk => by have := hsep k hk; have := hT k hk; omega) hne hcmp).mono ?_) Try.call53
    rintro r w' ⟨rfl, hx, hn'⟩
    have hz := hx.size
    refine ⟨rfl, hx.mono fun k _ hk => by rcases hk with hk | hk | hk; exact hT k hk; exact hk ▸ h5; exact hk ▸ h6, fun hne' => ?_⟩
    obtain ⟨x, xs', e1, e2, e3⟩ := hn' hne'
    exact ⟨some x, xs', e1, by omega, e3, e2⟩
-- f26 "pedigree/merge.Once[pedigree/pedigreeref09.Thing]" params [35, 33] results [33] -> [(ResultVar.tmp 4)]
set_option maxHeartbeats 4000000 in
set_option maxRecDepth 100000 in
theorem Once_c {B a0 b0 : Nat} {q : Value} {l0 : List TH} {fn : Fn} {bs ca : Array Value} (w : World) (h0 : CV B (fun k => a0 ≤ k ∧ k < b0) (.iface 84 q) l0 w) (hB : B ≤ a0) (hab : a0 ≤ b0) (hb : b0 ≤ w.heap.size) (hcmp : CmpOk (.func fn bs ca)) :
    Ret Try.prog 26 #[.func fn bs ca, .iface 84 q] w fun r w' => (∃ p', r = .iface 84 p') ∧ CV B (fun k => a0 ≤ k ∧ k < w'.heap.size) r (onceL none l0) w' ∧ Keep w w' := by
  refine X.enter Try.func26 rfl Try.ntmps26 rfl ?_
  refine X.seq ?_
  refine X.region ?_
  refine X.opE X.wN rfl (X.boxE rfl rfl) ?_
  rintro _ w1 ⟨rfl, hB1, hk1, hz1⟩
  refine X.opE X.wN rfl (X.boxE rfl rfl) ?_
  rintro _ w2 ⟨rfl, hB2, hk2, hz2⟩
  refine X.opw X.wN rfl (X.assign rfl) ?_
  refine X.opsEnd ?_
  refine X.seq ?_
  refine X.seq ?_
  refine X.region ?_
  refine X.opw X.wN rfl (X.load1B Try.isAgg35 (hB1.keep hk2) rfl rfl) ?_
  refine X.opw X.wN rfl (X.eqFn1 Try.underlying35 rfl rfl) ?_
  refine X.opw X.wN rfl (X.move (v := .bool false) rfl) ?_
  refine X.opw (X.wG rfl rfl rfl) rfl (X.load1B Try.isAgg33 hB2 rfl rfl) ?_
  refine X.opw (X.wG rfl rfl rfl) rfl (X.eqIf1 Try.underlying33 rfl rfl) ?_
  refine X.opw X.wN rfl (X.pickF (v := .bool false) rfl rfl) ?_
  refine X.opsEnd ?_
  refine X.condF rfl ?_
  refine X.skip ?_
  refine X.seq ?_
  refine X.region ?_
  refine X.opE X.wN rfl (X.allocE Try.zeroValue29 rfl) ?_
  rintro _ w3 ⟨rfl, hB3, hk3, hz3⟩
  refine X.opsEnd ?_
  refine X.seq ?_
  refine X.region ?_
  refine X.opE X.wN rfl (X.allocE Try.zeroValue4 rfl) ?_
  rintro _ w4 ⟨rfl, hB4, hk4, hz4⟩
  refine X.opE X.wN rfl (X.storeE Try.sizeOf4 hB4 rfl rfl rfl rfl) ?_
  rintro _ w5 ⟨hB5, hx5, hz5⟩
  refine X.opsEnd ?_
  refine X.seq ?_
  refine X.region ?_
  refine X.opw X.wN rfl (X.mkFunc rfl) ?_
  refine X.opw X.wN rfl (X.buildB (vs := [(0, .func (.func 53) #[] #[ptrV (w1.heap.size), ptrV (w3.heap.size), ptrV (w.heap.size), ptrV (w2.heap.size)])]) (cs := #[.func (.func 53) #[] #[ptrV (w1.heap.size), ptrV (w3.heap.size), ptrV (w.heap.size), ptrV (w2.heap.size)], .bool false]) rfl (by kernel_rfl)) ?_
  refine X.opE X.wN rfl (X.boxE rfl rfl) ?_
  rintro _ w6 ⟨rfl, hB6, hk6, hz6⟩
  refine X.opw X.wN rfl (X.mkIface Try.underlying84 rfl rfl) ?_
  refine X.opw X.wN rfl (X.assign rfl) ?_
  refine X.opsEnd ?_
  refine X.ret1 Try.func26 Try.results26 rfl ?_
  refine ⟨⟨_, rfl⟩, ?_, (((((hk1.trans hk2).trans hk3).trans hk4).step hx5 (by intros; (try simp only [] at *); omega)).trans hk6)⟩
  exact CV.wide (cur_made (a := a0) (b := w5.heap.size) (once_stp (p := none) (Tc := fun k => a0 ≤ k ∧ k < b0) ⟨(hB2.keep (((hk3.trans hk4).step hx5 (by intros; (try simp only [] at *); omega)).trans hk6)), (hB5.keep hk6), (hB1.keep ((((hk2.trans hk3).trans hk4).step hx5 (by intros; (try simp only [] at *); omega)).trans hk6)), (hB3.keep ((hk4.step hx5 (by intros; (try simp only [] at *); omega)).trans hk6))⟩ (CV.cur (h0.keep (((((hk1.trans hk2).trans hk3).trans hk4).step hx5 (by intros; (try simp only [] at *); omega)).trans hk6))) hB (by omega) (fun k hk => by omega) (by omega) (by omega) (by omega) (by omega) (fun k hk => by (try simp only [] at *); omega) (by omega) hcmp) hB6 (by omega) (Nat.le_refl _) (by omega)) (fun k hk => by omega)
end Go.Proofs.Ytgfficbkajcdpaa
