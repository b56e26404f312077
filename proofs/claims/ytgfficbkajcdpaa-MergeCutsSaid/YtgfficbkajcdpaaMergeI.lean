/- Small functions, and whether the program is awake. -/
import Derived.Test.YtgfficbkajcdpaaMergeH
import Derived.Test.YtgfficbkajcdpaaProg
namespace Go.Proofs.Ytgfficbkajcdpaa
open Go Go.Proofs.Ytgfficbkajcdpaa.X
set_option linter.unusedVariables false
set_option linter.unusedSimpArgs false
theorem eqT_guard : Try.prog.eqGuardType Try.prog.depth 29 = false := by kernel_rfl
theorem eqT (a b : TH) (w : World) : (Op.equalIn 10000 29 (.agg #[.int .i8 a.1, .int .i64 a.2]) (.agg #[.int .i8 b.1, .int .i64 b.2])).run Try.prog w = .ok (decide (a = b)) w := by
  rw [run_equalIn_struct w 9999 _ _ _ (by simp [Program.fieldsOf, Try.underlying29]) (by kernel_rfl)]
  simp only [Program.fieldsOf, Try.underlying29]
  simp [Op.eqFields, part, Try.isAgg27, Try.isAgg3, run_equalIn_int _ 9998 27 .i8 .i8 _ _ Try.underlying27, run_equalIn_int _ 9998 3 .i64 .i64 _ _ Try.underlying3]
  obtain ⟨a1, a2⟩ := a
  obtain ⟨b1, b2⟩ := b
  by_cases h1 : a1 = b1 <;> by_cases h2 : a2 = b2 <;> simp [h1, h2]
-- f17 "pedigree/pedigreeref09.Compare" params [29, 29] results [3] -> [(ResultVar.tmp 4)] nfree 0 ntmps 17 na
set_option maxHeartbeats 4000000 in
set_option maxRecDepth 100000 in
theorem Compare_c (x y : TH) (w : World) : Ret Try.prog 17 #[evT x, evT y] w fun r w' => ∃ nc, r = .int .i64 nc ∧ (nc < 0 ↔ x.1 < y.1) ∧ (0 < nc ↔ y.1 < x.1) ∧ Keep w w' := by
  refine X.enter Try.func17 rfl Try.ntmps17 rfl ?_
  refine X.seq ?_
  refine X.region ?_
  refine X.opE X.wN rfl (X.boxE rfl rfl) ?_
  rintro _ w1 ⟨rfl, hB1, hk1, hz1⟩
  refine X.opE X.wN rfl (X.boxE rfl rfl) ?_
  rintro _ w2 ⟨rfl, hB2, hk2, hz2⟩
  refine X.opw X.wN rfl (X.assign rfl) ?_
  refine X.opsEnd ?_
  refine X.seq ?_
  refine X.block ?_
  refine X.seq ?_
  refine X.region ?_
  refine X.opw X.wN rfl (X.fldB (j := 0) Try.underlying29 rfl rfl Try.sizeOf27 rfl) ?_
  refine X.opw X.wN rfl (X.load1B Try.isAgg27 (hB1.keep hk2) rfl rfl) ?_
  refine X.opw X.wN rfl (X.fldB (j := 0) Try.underlying29 rfl rfl Try.sizeOf27 rfl) ?_
  refine X.opw X.wN rfl (X.load1B Try.isAgg27 hB2 rfl rfl) ?_
  refine X.opP X.wN rfl rfl (X.lss rfl rfl) (fun h10 => ?_) (fun h10 => ?_)
  · refine X.opw X.wN rfl (X.assign (v := .bool true) rfl) ?_
    refine X.opsEnd ?_
    refine X.condT rfl ?_
    refine X.seq ?_
    refine X.region ?_
    refine X.opw X.wN rfl (X.assign rfl) ?_
    refine X.opsEnd ?_
    refine X.ret1 (v := (.int .i64 _)) Try.func17 Try.results17 rfl ?_
    exact ⟨-1, rfl, by omega, by omega, (hk1.trans hk2)⟩
  · refine X.opw X.wN rfl (X.assign (v := .bool false) rfl) ?_
    refine X.opsEnd ?_
    refine X.condF rfl ?_
    refine X.seq ?_
    refine X.region ?_
    refine X.opw X.wN rfl (X.fldB (j := 0) Try.underlying29 rfl rfl Try.sizeOf27 rfl) ?_
    refine X.opw X.wN rfl (X.load1B Try.isAgg27 (hB1.keep hk2) rfl rfl) ?_
    refine X.opw X.wN rfl (X.fldB (j := 0) Try.underlying29 rfl rfl Try.sizeOf27 rfl) ?_
    refine X.opw X.wN rfl (X.load1B Try.isAgg27 hB2 rfl rfl) ?_
    refine X.opP X.wN rfl rfl (X.gtr rfl rfl) (fun h16 => ?_) (fun h16 => ?_)
    · refine X.opw X.wN rfl (X.assign (v := .bool true) rfl) ?_
      refine X.opsEnd ?_
      refine X.condT rfl ?_
      refine X.seq ?_
      refine X.region ?_
      refine X.opw X.wN rfl (X.assign rfl) ?_
      refine X.opsEnd ?_
      refine X.ret1 (v := (.int .i64 _)) Try.func17 Try.results17 rfl ?_
      exact ⟨1, rfl, by omega, by omega, (hk1.trans hk2)⟩
    · refine X.opw X.wN rfl (X.assign (v := .bool false) rfl) ?_
      refine X.opsEnd ?_
      refine X.condF rfl ?_
      refine X.skip ?_
      refine X.inBlock ?_
      refine X.seq ?_
      refine X.region ?_
      refine X.opw X.wN rfl (X.assign rfl) ?_
      refine X.opsEnd ?_
      refine X.ret1 (v := (.int .i64 _)) Try.func17 Try.results17 rfl ?_
      exact ⟨0, rfl, by omega, by omega, (hk1.trans hk2)⟩
theorem cmp17 (x y : TH) (wa : World) : YC Try.prog (.func (.func 17) #[] #[]) [evT x, evT y] wa fun r wb => ∃ nc, r = .int .i64 nc ∧ (nc < 0 ↔ x.1 < y.1) ∧ Keep wa wb :=
  YC.of_ret (args := [_, _]) (cap := []) ((Compare_c x y wa).mono fun r w' ⟨nc, h1, h2, _, h3⟩ => ⟨nc, h1, h2, h3⟩) Try.call17
theorem CV.keep {B : Nat} {T : Nat → Prop} {c : Value} {xs : List TH} {w w' : World} (h : CV B T c xs w) (k : Keep w w') : CV B T c xs w' := h.agree (Agree.of_keep k)
theorem CV.ext {B : Nat} {T U : Nat → Prop} {c : Value} {xs : List TH} {w w' : World} (h : CV B T c xs w) (x : Ext U w w') (hU : ∀ k, k < w.heap.size → U k → B ≤ k ∧ ¬ T k) : CV B T c xs w' := h.agree (Agree.of_ext x hU)
theorem CV.cur {B : Nat} {T : Nat → Prop} {p : Value} {xs : List TH} {w : World} (h : CV B T (.iface 84 p) xs w) : Cur Try.prog evT (0, 0) NX B T p xs w := by
  rcases h with ⟨h, _⟩ | ⟨p', h, h2⟩
  · cases h
  · cases h; exact h2
def L2 (l0 l1 : List TH) : Nat → List TH
  | 0 => l0
  | 1 => l1
  | _ => []
theorem Merge2_c {B a0 b0 a1 b1 lo hi c : Nat} {y0 y1 : Value} {l0 l1 : List TH} {fn : Fn} {bs ca : Array Value} {A : Option Addr} (w : World) (hs : Sl KR1 lo hi w A 2 [y0, y1]) (h0 : CV B (fun k => a0 ≤ k ∧ k < b0) y0 l0 w) (h1 : CV B (fun k => a1 ≤ k ∧ k < b1) y1 l1 w) (hB : B ≤ a0) (hab : a0 ≤ b0) (h01 : b0 ≤ a1) (h1b : a1 ≤ b1) (hb : b1 ≤ w.heap.size)
    (hcmp : ∀ (x y : TH) (wa : World), YC Try.prog (.func fn bs ca) [evT x, evT y] wa fun r wb => ∃ nc, r = .int .i64 nc ∧ (nc < 0 ↔ x.1 < y.1) ∧ Keep wa wb) : Ret Try.prog 16 #[.func fn bs ca, .slice A 2 c] w fun r w' => (∃ p, r = .iface 84 p) ∧ CV B (fun k => a0 ≤ k ∧ k < w'.heap.size) r (mgC 2 (L2 l0 l1)) w' ∧ Keep w w' := by
  refine Merge_c (n := 2) (Tj := fun j k => (j = 0 ∧ a0 ≤ k ∧ k < b0) ∨ (j = 1 ∧ a1 ≤ k ∧ k < b1)) w hs (by omega) hB (by omega) (fun j hj k hk => by omega) (fun i j hi hj hne k h1 h2 => by omega) ?_ hcmp
  intro j y hy
  match j, hy with
  | 0, hy => cases hy; exact h0.wide fun k hk => .inl ⟨rfl, hk⟩
  | 1, hy => cases hy; exact h1.wide fun k hk => .inr ⟨rfl, hk⟩
  | n + 2, hy => simp at hy
theorem get2 {l : List TH} {n : Nat} (i : Nat) (h : l.length = n) (hi : i < n) : ∃ x, l[i]? = some x := ⟨l[i]'(by omega), List.getElem?_eq_getElem (by omega)⟩
theorem thing_step {l l' : List TH} {i : Nat} {x y : TH} (h1 : l[i]? = some x) (h2 : l'[i]? = some y) (h : (!decide (x = y)) = false) (ht : l.take i = l'.take i) : l.take (i + 1) = l'.take (i + 1) := by
  have e : x = y := by simpa using h
  rw [take_at h1, take_at h2, ht, e]
-- f22 "pedigree/pedigreeref09.Same" params [24, 24] results [4] -> [(ResultVar.tmp 4)] nfree 0 ntmps 26 names
set_option maxHeartbeats 4000000 in
set_option maxRecDepth 100000 in
theorem Same_c {lo1 hi1 lo2 hi2 : Nat} {A1 A2 : Option Addr} {n1 n2 c1 c2 : Nat} {l1 l2 : List TH} (w : World) (hs1 : Sl KTh lo1 hi1 w A1 n1 l1) (hs2 : Sl KTh lo2 hi2 w A2 n2 l2) : Ret Try.prog 22 #[.slice A1 n1 c1, .slice A2 n2 c2] w fun r w' => r = .bool (decide (l1 = l2)) ∧ Keep w w' := by
  have hl1 := hs1.len
  have hl2 := hs2.len
  have hbd := hs1.bound
  refine X.enter Try.func22 rfl Try.ntmps22 rfl ?_
  refine X.seq ?_
  refine X.region ?_
  refine X.opw X.wN rfl (X.assign rfl) ?_
  refine X.opsEnd ?_
  refine X.seq ?_
  refine X.seq ?_
  refine X.region ?_
  refine X.opw X.wN rfl (X.move (v := .slice _ _ _) rfl) ?_
  refine X.opw X.wN rfl (X.lenSl Try.underlying24 rfl) ?_
  refine X.opw X.wN rfl (X.move (v := .slice _ _ _) rfl) ?_
  refine X.opw X.wN rfl (X.lenSl Try.underlying24 rfl) ?_
  refine X.opP X.wN rfl rfl (X.neI rfl rfl) (fun h10 => ?_) (fun h10 => ?_)
  · refine X.opsEnd ?_
    refine X.condT rfl ?_
    refine X.seq ?_
    refine X.region ?_
    refine X.opw X.wN rfl (X.assign rfl) ?_
    refine X.opsEnd ?_
    refine X.ret1 (v := (.bool _)) Try.func22 Try.results22 rfl ?_
    exact ⟨by congr 1; exact (decide_eq_false (fun e => h10 (by rw [← hl1, ← hl2, e]))).symm, (Keep.refl _)⟩
  · refine X.opsEnd ?_
    refine X.condF rfl ?_
    refine X.skip ?_
    refine X.seq ?_
    refine X.seq ?_
    refine X.region ?_
    refine X.opw X.wN rfl (X.assign rfl) ?_
    refine X.opsEnd ?_
    refine X.block ?_
    -- LOOP live: 0=a, 1=b, 5=i*
    refine X.loopL (σ := Nat) (fun s => [(0, .slice A1 n1 c1), (1, .slice A2 n2 c2), (5, .int .i64 (s : Int))]) (fun s w' => s ≤ n1 ∧ l1.take s = l2.take s ∧ Keep w w') (fun s => n1 - s) 0 ⟨rfl, rfl, rfl, trivial⟩ ⟨by simp, by simp, (Keep.refl _)⟩ ?_
    rintro i b wl ⟨hi0, ht, hk⟩ hback
    refine X.seq ?_
    refine X.seq ?_
    refine X.region ?_
    refine X.opw X.wN rfl (X.move (v := .int .i64 _) rfl) ?_
    refine X.opw X.wN rfl (X.move (v := .slice _ _ _) rfl) ?_
    refine X.opw X.wN rfl (X.lenSl Try.underlying24 rfl) ?_
    refine X.opP X.wN rfl rfl (X.lss rfl rfl) (fun h14 => ?_) (fun h14 => ?_)
    · obtain ⟨x1, hx1⟩ := get2 i hl1 (by omega)
      obtain ⟨x2, hx2⟩ := get2 i hl2 (by omega)
      refine X.opsEnd ?_
      refine X.condT rfl ?_
      refine X.skip ?_
      refine X.seq ?_
      refine X.block ?_
      refine X.seq ?_
      refine X.regionD (fun _ => False) 9 (by kernel_rfl) (by kernel_rfl) (fun w1 hk1 hz1 => ?_)
      refine X.dTake 0 rfl (by kernel_rfl) (by kernel_rfl) (by kernel_rfl) (X.dwN rfl) (fun w' hk' => X.move (v := .slice _ _ _) rfl) ?_
      refine X.dTake 1 rfl (by kernel_rfl) (by kernel_rfl) (by kernel_rfl) (X.dwN rfl) (fun w' hk' => X.move (v := .int .i64 _) rfl) ?_
      refine X.dTake 2 rfl (by kernel_rfl) (by kernel_rfl) (by kernel_rfl) (X.dwN rfl) (fun w' hk' => X.idxS (hs1.keep ((hk.trans hk1).trans hk')) Try.underlying24 Try.sizeOf29 rfl rfl ⟨by omega, by omega⟩) ?_
      refine X.dTake 3 rfl (by kernel_rfl) (by kernel_rfl) (by kernel_rfl) (X.dwN rfl) (fun w' hk' => X.loadSN Try.isAgg29 Try.sizeOf29 (hs1.keep ((hk.trans hk1).trans hk')) hx1 rfl (fun _ h => h.1) rfl) ?_
      refine X.dTake 4 rfl (by kernel_rfl) (by kernel_rfl) (by kernel_rfl) (X.dwN rfl) (fun w' hk' => X.move (v := .slice _ _ _) rfl) ?_
      refine X.dTake 5 rfl (by kernel_rfl) (by kernel_rfl) (by kernel_rfl) (X.dwN rfl) (fun w' hk' => X.move (v := .int .i64 _) rfl) ?_
      refine X.dTake 6 rfl (by kernel_rfl) (by kernel_rfl) (by kernel_rfl) (X.dwN rfl) (fun w' hk' => X.idxS (hs2.keep ((hk.trans hk1).trans hk')) Try.underlying24 Try.sizeOf29 rfl rfl ⟨by omega, by omega⟩) ?_
      refine X.dTake 7 rfl (by kernel_rfl) (by kernel_rfl) (by kernel_rfl) (X.dwN rfl) (fun w' hk' => X.loadSN Try.isAgg29 Try.sizeOf29 (hs2.keep ((hk.trans hk1).trans hk')) hx2 rfl (fun _ h => h.1) rfl) ?_
      refine X.dTake 8 rfl (by kernel_rfl) (by kernel_rfl) (by kernel_rfl) (X.dwN rfl) (fun w' hk' => X.neA eqT_guard rfl rfl (eqT x1 x2 _)) ?_
      refine X.dEnd (by kernel_rfl) ?_
      refine X.condB rfl (fun hc => ?_) (fun hc => ?_)
      · refine X.seq ?_
        refine X.region ?_
        refine X.opw X.wN rfl (X.assign rfl) ?_
        refine X.opsEnd ?_
        refine X.ret1 (v := (.bool _)) Try.func22 Try.results22 rfl ?_
        refine ⟨by congr 1; refine (decide_eq_false (fun e => ?_)).symm; rw [e, hx2] at hx1; cases hx1; simp at hc, (hk.trans hk1)⟩
      · refine X.skip ?_
        refine X.inBlock ?_
        refine X.region ?_
        refine X.opw X.wN rfl (X.move (v := .int .i64 _) rfl) ?_
        refine X.opw X.wN rfl (X.add rfl rfl (X.w_i64 (by omega))) ?_
        refine X.opw X.wN rfl (X.assign (v := .int .i64 _) rfl) ?_
        refine X.opsEnd ?_
        refine hback (i + 1) _ _ ⟨rfl, rfl, rfl, trivial⟩ ⟨by omega, thing_step hx1 hx2 hc ht, (hk.trans hk1)⟩ (by omega)
    · refine X.opsEnd ?_
      refine X.condF rfl ?_
      refine X.exit rfl ?_
      refine X.seq ?_
      refine X.region ?_
      refine X.opw X.wN rfl (X.assign rfl) ?_
      refine X.opsEnd ?_
      refine X.ret1 (v := (.bool _)) Try.func22 Try.results22 rfl ?_
      refine ⟨by congr 1; refine (decide_eq_true ?_).symm; rw [List.take_of_length_le (by omega), List.take_of_length_le (by omega)] at ht; exact ht, hk⟩
-- f19 "pedigree/pedigreelaw09.short" params [24] results [24] -> [(ResultVar.tmp 2)] nfree 0 ntmps 9 names ["
set_option maxHeartbeats 4000000 in
set_option maxRecDepth 100000 in
theorem short_c {lo hi : Nat} {A : Option Addr} {n c : Nat} {l : List TH} (w : World) (hs : Sl KTh lo hi w A n l) (hnc : n ≤ c) : Ret Try.prog 19 #[.slice A n c] w fun r w' => ∃ m, r = .slice A m c ∧ m ≤ c ∧ m ≤ 30 ∧ Sl KTh lo hi w' A m (l.take 30) ∧ Keep w w' := by
  have hl := hs.len
  refine X.enter Try.func19 rfl Try.ntmps19 rfl ?_
  refine X.seq ?_
  refine X.region ?_
  refine X.opw X.wN rfl (X.assign rfl) ?_
  refine X.opsEnd ?_
  refine X.seq ?_
  refine X.seq ?_
  refine X.region ?_
  refine X.opw X.wN rfl (X.move (v := .slice _ _ _) rfl) ?_
  refine X.opw X.wN rfl (X.lenSl Try.underlying24 rfl) ?_
  refine X.opP X.wN rfl rfl (X.gtr rfl rfl) (fun h5 => ?_) (fun h5 => ?_)
  · refine X.opsEnd ?_
    refine X.condT rfl ?_
    refine X.seq ?_
    refine X.region ?_
    refine X.opw X.wN rfl (X.move (v := .slice _ _ _) rfl) ?_
    refine X.opw X.wN rfl (X.cutHr Try.underlying24 Try.sizeOf29 rfl rfl (by omega)) ?_
    refine X.opw X.wN rfl (X.assign (v := .slice _ _ _) rfl) ?_
    refine X.opsEnd ?_
    refine X.ret1 Try.func19 Try.results19 rfl ?_
    exact ⟨_, rfl, by omega, by omega, (hs.take 30 (by omega)), (Keep.refl _)⟩
  · refine X.opsEnd ?_
    refine X.condF rfl ?_
    refine X.skip ?_
    refine X.seq ?_
    refine X.region ?_
    refine X.opw X.wN rfl (X.move (v := .slice _ _ _) rfl) ?_
    refine X.opw X.wN rfl (X.assign (v := .slice _ _ _) rfl) ?_
    refine X.opsEnd ?_
    refine X.ret1 Try.func19 Try.results19 rfl ?_
    exact ⟨_, rfl, by omega, by omega, by rw [List.take_of_length_le (by omega)]; exact hs, (Keep.refl _)⟩
end Go.Proofs.Ytgfficbkajcdpaa
