/- What one cursor holds of another: Both, Less. -/
import Derived.Test.YtgfficbkajcdpaaMergeL
import Derived.Test.YtgfficbkajcdpaaProg
namespace Go.Proofs.Ytgfficbkajcdpaa
open Go Go.Proofs.Ytgfficbkajcdpaa.X
set_option linter.unusedVariables false
set_option linter.unusedSimpArgs false
theorem held_stp (t : Bool) {B a b hb c5 c10 c7 c9 c4 : Nat} {Ta Tb : Nat → Prop} {xs0 ys0 : List TH} {cv p : Value} {w : World} (hbl : Blk w c5 [.iface 84 p] 33 ∧ Blk w c10 [(.func (.func 66) #[] #[ptrV c9, ptrV c4])] 46 ∧ Blk w c7 [.bool t] 4 ∧ Blk w c9 [ptrV hb] 85 ∧ Blk w c4 [cv] 35) (hCa : Cur Try.prog evT (0, 0) NX B Ta p xs0 w) (hd : Hd B Tb hb ys0 w) (hBa : B ≤ a) (hbw : b ≤ w.heap.size)
    (hTa : ∀ k, Ta k → a ≤ k ∧ k < b) (hTb : ∀ k, (Tb k ∨ k = hb) → a ≤ k ∧ k < b) (h5 : a ≤ c5 ∧ c5 < b) (h10 : a ≤ c10 ∧ c10 < b) (h7 : a ≤ c7 ∧ c7 < b) (h9 : a ≤ c9 ∧ c9 < b) (h4 : a ≤ c4 ∧ c4 < b) (hTh : ¬ Tb hb)
    (hsepA : ∀ k, Ta k → k ≠ c5 ∧ k ≠ c10 ∧ k ≠ c7 ∧ k ≠ c9 ∧ k ≠ c4) (hsepB : ∀ k, (Tb k ∨ k = hb) → k ≠ c5 ∧ k ≠ c10 ∧ k ≠ c7 ∧ k ≠ c9 ∧ k ≠ c4) (hdd : ∀ k, Ta k → ¬ Tb k ∧ k ≠ hb) (hcmp : CmpOk cv) :
    Stp Try.prog evT (0, 0) B (fun k => a ≤ k ∧ k < b) (.func (.func 67) #[] #[ptrV c5, ptrV c10, ptrV c7]) (heldL t xs0 ys0) w := by
  have hU : ∀ k, (Ta k ∨ Tb k ∨ k = hb) → a ≤ k ∧ k < b := fun k h => h.elim (hTa k) (hTb k)
  refine ⟨fun l w => ∃ xs0 ys0, l = heldL t xs0 ys0 ∧ b ≤ w.heap.size ∧ (Blk w c5 [.iface 84 p] 33 ∧ Blk w c10 [(.func (.func 66) #[] #[ptrV c9, ptrV c4])] 46 ∧ Blk w c7 [.bool t] 4 ∧ Blk w c9 [ptrV hb] 85 ∧ Blk w c4 [cv] 35) ∧ Cur Try.prog evT (0, 0) NX B Ta p xs0 w ∧ Hd B Tb hb ys0 w, ⟨xs0, ys0, rfl, hbw, hbl, hCa, hd⟩, ?_, ?_⟩
  · rintro l w w' ⟨xs, ys, g1, g2, ⟨q5, q10, q7, q9, q4⟩, g4, g5⟩ ha
    have hz := ha.size
    exact ⟨xs, ys, g1, by omega, ⟨ha.blk q5 h5, ha.blk q10 h10, ha.blk q7 h7, ha.blk q9 h9, ha.blk q4 h4⟩, g4.agree (ha.sub hTa), g5.ext ha fun k _ hk => ⟨hk.1, fun h => hk.2 (hTb k (.inl h)), fun h => hk.2 (hTb k (.inr h))⟩⟩
  · rintro l w ⟨xs, ys, rfl, g2, g3, g4, g5⟩
    refine YC.of_ret (args := []) (cap := [_, _, _]) ((held2_c t w g3 g4 g5 (by omega) (by have := hTb hb (.inr rfl); omega) hTh (fun k hk => by have := hTa k hk; omega) (fun k hk => by have := hTb k (.inl hk); omega)
      (fun k hk => by have := hsepA k hk; have := hTa k hk; omega) (fun k hk => by have := hsepB k hk; have := hTb k hk; omega) (fun k hk => ⟨by have := hTa k hk; omega, hdd k hk⟩) (fun k hk => ⟨by have := hTb k hk; omega, fun h => hk.elim (hdd k h).1 (hdd k h).2⟩) hcmp).mono ?_) Try.call67
    rintro r w' ⟨rfl, hx, hn'⟩
    obtain ⟨q5, q10, q7, q9, q4⟩ := g3
    have hz := hx.size
    refine ⟨rfl, hx.mono fun k _ hk => hU k hk, fun hne => ?_⟩
    obtain ⟨xs', ys', e1, e2, e3⟩ := hn' hne
    have hs : ∀ k, (Ta k ∨ Tb k ∨ k = hb) → k ≠ c5 ∧ k ≠ c10 ∧ k ≠ c7 ∧ k ≠ c9 ∧ k ≠ c4 := fun k h => h.elim (hsepA k) (hsepB k)
    exact ⟨xs', ys', e1, by omega, ⟨q5.ext hx (fun h => (hs _ h).1 rfl), q10.ext hx (fun h => (hs _ h).2.1 rfl), q7.ext hx (fun h => (hs _ h).2.2.1 rfl), q9.ext hx (fun h => (hs _ h).2.2.2.1 rfl), q4.ext hx (fun h => (hs _ h).2.2.2.2 rfl)⟩, e2, e3⟩
theorem CV.isC {B : Nat} {T : Nat → Prop} {c : Value} {xs : List TH} {w : World} (h : CV B T c xs w) : IsC c := h.elim (fun h => .inl h.1) (fun ⟨p, h, _⟩ => .inr ⟨p, h⟩)
-- f54 "pedigree/merge.held[pedigree/pedigreeref09.Thing]" params [35, 33, 33, 4] results [33] -> [(ResultVar.
set_option maxHeartbeats 4000000 in
set_option maxRecDepth 100000 in
theorem held_c (t : Bool) {B a0 b0 a1 b1 : Nat} {p y : Value} {l0 l1 : List TH} {fn : Fn} {bs ca : Array Value} (w : World) (h0 : CV B (fun k => a0 ≤ k ∧ k < b0) (.iface 84 p) l0 w) (h1 : CV B (fun k => a1 ≤ k ∧ k < b1) y l1 w) (hB : B ≤ a0) (hab : a0 ≤ b0) (h01 : b0 ≤ a1) (h1b : a1 ≤ b1) (hb : b1 ≤ w.heap.size) (hcmp : CmpOk (.func fn bs ca)) :
    Ret Try.prog 54 #[.func fn bs ca, .iface 84 p, y, .bool t] w fun r w' => (∃ p', r = .iface 84 p') ∧ CV B (fun k => a0 ≤ k ∧ k < w'.heap.size) r (heldL t l0 l1) w' ∧ Keep w w' := by
  refine X.enter Try.func54 rfl Try.ntmps54 rfl ?_
  refine X.seq ?_
  refine X.region ?_
  refine X.opE X.wN rfl (X.boxE rfl rfl) ?_
  rintro _ w1 ⟨rfl, hB1, hk1, hz1⟩
  refine X.opE X.wN rfl (X.boxE rfl rfl) ?_
  rintro _ w2 ⟨rfl, hB2, hk2, hz2⟩
  refine X.opE X.wN rfl (X.boxE rfl rfl) ?_
  rintro _ w3 ⟨rfl, hB3, hk3, hz3⟩
  refine X.opw X.wN rfl (X.assign rfl) ?_
  refine X.opsEnd ?_
  refine X.seq ?_
  refine X.seq ?_
  refine X.region ?_
  refine X.opw X.wN rfl (X.load1B Try.isAgg35 (hB1.keep (hk2.trans hk3)) rfl rfl) ?_
  refine X.opw X.wN rfl (X.eqFn1 Try.underlying35 rfl rfl) ?_
  refine X.opw X.wN rfl (X.move (v := .bool false) rfl) ?_
  refine X.opw (X.wG rfl rfl rfl) rfl (X.load1B Try.isAgg33 (hB2.keep hk3) rfl rfl) ?_
  refine X.opw (X.wG rfl rfl rfl) rfl (X.eqIf1 Try.underlying33 rfl rfl) ?_
  refine X.opw X.wN rfl (X.pickF (v := .bool false) rfl rfl) ?_
  refine X.opsEnd ?_
  refine X.condF rfl ?_
  refine X.skip ?_
  refine X.seq ?_
  refine X.region ?_
  refine X.opw X.wN rfl (X.move rfl) ?_
  refine X.opw X.wN rfl (X.buildB (vs := [(0, y)]) (cs := #[y, .int .i8 0, .int .i64 0, .bool false, .bool false]) rfl (build_hd y h1.isC)) ?_
  refine X.opE X.wN rfl (X.boxE rfl rfl) ?_
  rintro _ w4 ⟨rfl, hB4, hk4, hz4⟩
  refine X.opE X.wN rfl (X.allocE Try.zeroValue85 rfl) ?_
  rintro _ w5 ⟨rfl, hB5, hk5, hz5⟩
  refine X.opE X.wN rfl (X.storeE Try.sizeOf85 hB5 rfl rfl rfl rfl) ?_
  rintro _ w6 ⟨hB6, hx6, hz6⟩
  refine X.opsEnd ?_
  refine X.seq ?_
  refine X.region ?_
  refine X.opw X.wN rfl (X.mkFunc rfl) ?_
  refine X.opE X.wN rfl (X.allocE Try.zeroValue46 rfl) ?_
  rintro _ w7 ⟨rfl, hB7, hk7, hz7⟩
  refine X.opE X.wN rfl (X.storeE Try.sizeOf46 hB7 rfl rfl rfl rfl) ?_
  rintro _ w8 ⟨hB8, hx8, hz8⟩
  refine X.opsEnd ?_
  refine X.seq ?_
  refine X.region ?_
  refine X.opw X.wN rfl (X.mkFunc rfl) ?_
  refine X.opw X.wN rfl (X.buildB (vs := [(0, .func (.func 67) #[] #[ptrV (w1.heap.size), ptrV (w6.heap.size), ptrV (w2.heap.size)])]) (cs := #[.func (.func 67) #[] #[ptrV (w1.heap.size), ptrV (w6.heap.size), ptrV (w2.heap.size)], .bool false]) rfl (by kernel_rfl)) ?_
  refine X.opE X.wN rfl (X.boxE rfl rfl) ?_
  rintro _ w9 ⟨rfl, hB9, hk9, hz9⟩
  refine X.opw X.wN rfl (X.mkIface Try.underlying84 rfl rfl) ?_
  refine X.opw X.wN rfl (X.assign rfl) ?_
  refine X.opsEnd ?_
  refine X.ret1 Try.func54 Try.results54 rfl ?_
  refine ⟨⟨_, rfl⟩, ?_, ((((((((hk1.trans hk2).trans hk3).trans hk4).trans hk5).step hx6 (by intros; (try simp only [] at *); omega)).trans hk7).step hx8 (by intros; (try simp only [] at *); omega)).trans hk9)⟩
  exact CV.wide (cur_made (a := a0) (b := w8.heap.size) (held_stp (Ta := fun k => a0 ≤ k ∧ k < b0) (Tb := fun k => a1 ≤ k ∧ k < b1) t ⟨(hB2.keep ((((((hk3.trans hk4).trans hk5).step hx6 (by intros; (try simp only [] at *); omega)).trans hk7).step hx8 (by intros; (try simp only [] at *); omega)).trans hk9)), (hB8.keep hk9), (hB3.keep (((((hk4.trans hk5).step hx6 (by intros; (try simp only [] at *); omega)).trans hk7).step hx8 (by intros; (try simp only [] at *); omega)).trans hk9)), (hB6.keep ((hk7.step hx8 (by intros; (try simp only [] at *); omega)).trans hk9)), (hB1.keep (((((((hk2.trans hk3).trans hk4).trans hk5).step hx6 (by intros; (try simp only [] at *); omega)).trans hk7).step hx8 (by intros; (try simp only [] at *); omega)).trans hk9))⟩ (CV.cur (h0.keep ((((((((hk1.trans hk2).trans hk3).trans hk4).trans hk5).step hx6 (by intros; (try simp only [] at *); omega)).trans hk7).step hx8 (by intros; (try simp only [] at *); omega)).trans hk9))) (.inl ⟨y, (0, 0), (hB4.keep ((((hk5.step hx6 (by intros; (try simp only [] at *); omega)).trans hk7).step hx8 (by intros; (try simp only [] at *); omega)).trans hk9)), h1.keep ((((((((hk1.trans hk2).trans hk3).trans hk4).trans hk5).step hx6 (by intros; (try simp only [] at *); omega)).trans hk7).step hx8 (by intros; (try simp only [] at *); omega)).trans hk9)⟩) hB (by omega) (fun k hk => by omega) (fun k hk => by (try simp only [] at *); omega) (by omega) (by omega) (by omega) (by omega) (by omega) (by omega) (fun k hk => by (try simp only [] at *); omega) (fun k hk => by (try simp only [] at *); omega) (fun k hk => by (try simp only [] at *); omega) hcmp) hB9 (by omega) (Nat.le_refl _) (by omega)) (fun k hk => by omega)
-- f28 "pedigree/merge.Both[pedigree/pedigreeref09.Thing]" params [35, 33, 33] results [33] -> [(ResultVar.tmp
set_option maxHeartbeats 4000000 in
set_option maxRecDepth 100000 in
theorem Both_c {B a0 b0 a1 b1 : Nat} {p y : Value} {l0 l1 : List TH} {fn : Fn} {bs ca : Array Value} (w : World) (h0 : CV B (fun k => a0 ≤ k ∧ k < b0) (.iface 84 p) l0 w) (h1 : CV B (fun k => a1 ≤ k ∧ k < b1) y l1 w) (hB : B ≤ a0) (hab : a0 ≤ b0) (h01 : b0 ≤ a1) (h1b : a1 ≤ b1) (hb : b1 ≤ w.heap.size) (hcmp : CmpOk (.func fn bs ca)) :
    Ret Try.prog 28 #[.func fn bs ca, .iface 84 p, y] w fun r w' => (∃ p', r = .iface 84 p') ∧ CV B (fun k => a0 ≤ k ∧ k < w'.heap.size) r (heldL true l0 l1) w' ∧ Keep w w' := by
  refine X.enter Try.func28 rfl Try.ntmps28 rfl ?_
  refine X.seq ?_
  refine X.region ?_
  refine X.opw X.wN rfl (X.assign rfl) ?_
  refine X.opsEnd ?_
  refine X.seq ?_
  refine X.region ?_
  refine X.opw X.wN rfl (X.move rfl) ?_
  refine X.opw X.wN rfl (X.move rfl) ?_
  refine X.opw X.wN rfl (X.move rfl) ?_
  refine X.opE X.wN rfl (X.callE (held_c true _ h0 h1 hB hab h01 h1b hb hcmp) Try.call54 rfl rfl) ?_
  rintro _ w1 ⟨⟨p1, rfl⟩, hC1, hk1⟩
  have hk1' := hk1.size
  refine X.opw X.wN rfl (X.assign rfl) ?_
  refine X.opsEnd ?_
  refine X.ret1 Try.func28 Try.results28 rfl ?_
  exact ⟨⟨_, rfl⟩, hC1, hk1⟩
-- f29 "pedigree/merge.Less[pedigree/pedigreeref09.Thing]" params [35, 33, 33] results [33] -> [(ResultVar.tmp
set_option maxHeartbeats 4000000 in
set_option maxRecDepth 100000 in
theorem Less_c {B a0 b0 a1 b1 : Nat} {p y : Value} {l0 l1 : List TH} {fn : Fn} {bs ca : Array Value} (w : World) (h0 : CV B (fun k => a0 ≤ k ∧ k < b0) (.iface 84 p) l0 w) (h1 : CV B (fun k => a1 ≤ k ∧ k < b1) y l1 w) (hB : B ≤ a0) (hab : a0 ≤ b0) (h01 : b0 ≤ a1) (h1b : a1 ≤ b1) (hb : b1 ≤ w.heap.size) (hcmp : CmpOk (.func fn bs ca)) :
    Ret Try.prog 29 #[.func fn bs ca, .iface 84 p, y] w fun r w' => (∃ p', r = .iface 84 p') ∧ CV B (fun k => a0 ≤ k ∧ k < w'.heap.size) r (heldL false l0 l1) w' ∧ Keep w w' := by
  refine X.enter Try.func29 rfl Try.ntmps29 rfl ?_
  refine X.seq ?_
  refine X.region ?_
  refine X.opw X.wN rfl (X.assign rfl) ?_
  refine X.opsEnd ?_
  refine X.seq ?_
  refine X.region ?_
  refine X.opw X.wN rfl (X.move rfl) ?_
  refine X.opw X.wN rfl (X.move rfl) ?_
  refine X.opw X.wN rfl (X.move rfl) ?_
  refine X.opE X.wN rfl (X.callE (held_c false _ h0 h1 hB hab h01 h1b hb hcmp) Try.call54 rfl rfl) ?_
  rintro _ w1 ⟨⟨p1, rfl⟩, hC1, hk1⟩
  have hk1' := hk1.size
  refine X.opw X.wN rfl (X.assign rfl) ?_
  refine X.opsEnd ?_
  refine X.ret1 Try.func29 Try.results29 rfl ?_
  exact ⟨⟨_, rfl⟩, hC1, hk1⟩
theorem skip_at {x y : TH} {l : List TH} {j : Nat} (hy : l[j]? = some y) (h : y.1 < x.1) : skipT x (l.drop (j + 1)) = skipT x (l.drop j) := by
  rw [drop_at hy]; exact (skip_go h).1.symm
theorem held_at {t : Bool} {x : TH} {l ys : List TH} {i : Nat} (hx : l[i]? = some x) : heldL t (l.drop i) ys = (if hasT x ys = t then [x] else []) ++ heldL t (l.drop (i + 1)) (skipT x ys) := by
  rw [drop_at hx, heldL]; split <;> rfl
-- f30 "pedigree/pedigreeref09.Held" params [24, 24, 4] results [24] -> [(ResultVar.tmp 6)] nfree 0 ntmps 60 n
set_option maxHeartbeats 4000000 in
set_option maxRecDepth 100000 in
theorem RHeld_c (t : Bool) {lo0 hi0 lo1 hi1 : Nat} {A0 A1 : Option Addr} {n0 c0 n1 c1 : Nat} {l0 l1 : List TH} (w : World) (hs0 : Sl KTh lo0 hi0 w A0 n0 l0) (hs1 : Sl KTh lo1 hi1 w A1 n1 l1) (hn : n0 ≤ 1000000) : Ret Try.prog 30 #[.slice A0 n0 c0, .slice A1 n1 c1, .bool t] w fun r w' => Fresh KTh 29 w w' r (heldL t l0 l1) := by
  have hl0 := hs0.len
  have hl1 := hs1.len
  have hbd := hs1.bound
  refine X.enter Try.func30 rfl Try.ntmps30 rfl ?_
  refine X.seq ?_
  refine X.region ?_
  refine X.opw X.wN rfl (X.assign rfl) ?_
  refine X.opsEnd ?_
  refine X.seq ?_
  refine X.region ?_
  refine X.opw X.wN rfl (X.assign rfl) ?_
  refine X.opsEnd ?_
  refine X.seq ?_
  refine X.region ?_
  refine X.opw X.wN rfl (X.assign rfl) ?_
  refine X.opsEnd ?_
  refine X.seq ?_
  refine X.seq ?_
  refine X.region ?_
  refine X.opw X.wN rfl (X.assign rfl) ?_
  refine X.opsEnd ?_
  refine X.block ?_
  -- LOOP live: 0=a, 1=b, 2=with, 7=k*, 8=out*, 9=i*
  refine X.loopL (σ := Nat × Nat × Value × List TH) (fun s => [(0, .slice A0 n0 c0), (1, .slice A1 n1 c1), (2, .bool t), (7, .int .i64 (s.2.1 : Int)), (8, s.2.2.1), (9, .int .i64 (s.1 : Int))]) (fun s w' => s.1 ≤ n0 ∧ s.2.1 ≤ n1 ∧ s.2.2.2.length ≤ s.1 ∧ s.2.2.2 ++ heldL t (l0.drop s.1) (l1.drop s.2.1) = heldL t l0 l1 ∧ Mine KTh 29 (fun k => w.heap.size ≤ k) 0 0 w' s.2.2.1 s.2.2.2 ∧ Keep w w') (fun s => n0 - s.1) (0, 0, _, []) ⟨rfl, rfl, rfl, rfl, rfl, rfl, trivial⟩ ⟨Nat.zero_le _, Nat.zero_le _, by simp, rfl, Mine.nil _ _ _ _ _ _, (Keep.refl _)⟩ ?_
  rintro ⟨i, j0, v, out⟩ b0 wl ⟨hi, hj0, hol, hh, hMo, hk⟩ hback
  dsimp only
  simp only at hi hj0 hol hh hMo
  have hk' := hk.size
  refine X.seq ?_
  refine X.seq ?_
  refine X.region ?_
  refine X.opw X.wN rfl (X.move (v := .int .i64 _) rfl) ?_
  refine X.opw X.wN rfl (X.move (v := .slice _ _ _) rfl) ?_
  refine X.opw X.wN rfl (X.lenSl Try.underlying24 rfl) ?_
  refine X.opP X.wN rfl rfl (X.lss rfl rfl) (fun h13 => ?_) (fun h13 => ?_)
  · obtain ⟨x, hx⟩ := get2 i hl0 (by omega)
    refine X.opsEnd ?_
    refine X.condT rfl ?_
    refine X.skip ?_
    refine X.seq ?_
    refine X.block ?_
    refine X.seq ?_
    refine X.block ?_
    -- LOOP live: 0=a, 1=b, 2=with, 7=k*, 8=out, 9=i
    refine X.loopL (σ := Nat) (fun s => [(0, .slice A0 n0 c0), (1, .slice A1 n1 c1), (2, .bool t), (7, .int .i64 (s : Int)), (8, v), (9, .int .i64 (i : Int))]) (fun s w' => s ≤ n1 ∧ skipT x (l1.drop s) = skipT x (l1.drop j0) ∧ Keep wl w' ∧ Keep w w') (fun s => n1 - s) j0 ⟨rfl, rfl, rfl, rfl, rfl, rfl, trivial⟩ ⟨hj0, rfl, Keep.refl _, hk⟩ ?_
    rintro j b2 wm ⟨hj, hsk, hwm, hkm⟩ hback2
    have hkm' := hkm.size
    refine X.seq ?_
    refine X.seq ?_
    refine X.regionD (fun _ => False) 16 (by kernel_rfl) (by kernel_rfl) (fun w1 hk1 hz1 => ?_)
    refine X.dTake 0 rfl (by kernel_rfl) (by kernel_rfl) (by kernel_rfl) (X.dwN rfl) (fun w' hk' => X.move (v := .int .i64 _) rfl) ?_
    refine X.dTake 1 rfl (by kernel_rfl) (by kernel_rfl) (by kernel_rfl) (X.dwN rfl) (fun w' hk' => X.move (v := .slice _ _ _) rfl) ?_
    refine X.dTake 2 rfl (by kernel_rfl) (by kernel_rfl) (by kernel_rfl) (X.dwN rfl) (fun w' hk' => X.lenSl Try.underlying24 rfl) ?_
    refine X.dTake 3 rfl (by kernel_rfl) (by kernel_rfl) (by kernel_rfl) (X.dwN rfl) (fun w' hk' => X.lss rfl rfl) ?_
    refine X.dTake 4 rfl (by kernel_rfl) (by kernel_rfl) (by kernel_rfl) (X.dwN rfl) (fun w' hk' => X.move (v := .bool _) rfl) ?_
    refine X.dFork 20 rfl (fun h20 => ?_) (fun h20 => ?_)
    · have hjn : j < n1 := by have := of_decide_eq_true h20; omega
      obtain ⟨y, hy⟩ := get2 j hl1 hjn
      refine X.dTake 5 rfl (by kernel_rfl) (by kernel_rfl) (by kernel_rfl) (X.dwG rfl rfl rfl) (fun w' hk' => X.move (v := .slice _ _ _) rfl) ?_
      refine X.dTake 6 rfl (by kernel_rfl) (by kernel_rfl) (by kernel_rfl) (X.dwG rfl rfl rfl) (fun w' hk' => X.move (v := .int .i64 _) rfl) ?_
      refine X.dTake 7 rfl (by kernel_rfl) (by kernel_rfl) (by kernel_rfl) (X.dwG rfl rfl rfl) (fun w' hk' => X.idxS (hs1.keep ((hkm.trans hk1).trans hk')) Try.underlying24 Try.sizeOf29 rfl rfl ⟨by omega, by omega⟩) ?_
      refine X.dTake 8 rfl (by kernel_rfl) (by kernel_rfl) (by kernel_rfl) (X.dwG rfl rfl rfl) (fun w' hk' => X.loadSN Try.isAgg29 Try.sizeOf29 (hs1.keep ((hkm.trans hk1).trans hk')) hy rfl (fun _ h => h.1) rfl) ?_
      refine X.dTake 9 rfl (by kernel_rfl) (by kernel_rfl) (by kernel_rfl) (X.dwG rfl rfl rfl) (fun w' hk' => X.move (v := .slice _ _ _) rfl) ?_
      refine X.dTake 10 rfl (by kernel_rfl) (by kernel_rfl) (by kernel_rfl) (X.dwG rfl rfl rfl) (fun w' hk' => X.move (v := .int .i64 _) rfl) ?_
      refine X.dTake 11 rfl (by kernel_rfl) (by kernel_rfl) (by kernel_rfl) (X.dwG rfl rfl rfl) (fun w' hk' => X.idxS (hs0.keep ((hkm.trans hk1).trans hk')) Try.underlying24 Try.sizeOf29 rfl rfl ⟨by omega, by omega⟩) ?_
      refine X.dTake 12 rfl (by kernel_rfl) (by kernel_rfl) (by kernel_rfl) (X.dwG rfl rfl rfl) (fun w' hk' => X.loadSN Try.isAgg29 Try.sizeOf29 (hs0.keep ((hkm.trans hk1).trans hk')) hx rfl (fun _ h => h.1) rfl) ?_
      refine X.dE (i := 13) (by kernel_rfl) rfl (X.dwG rfl rfl rfl) (X.callE (Compare_c y x _) Try.call17 rfl rfl) (by rintro _ w2 ⟨nc2, rfl, hlt2, hgt2, hk2⟩ _; exact hk2.mono (fun _ _ h => h.elim)) ?_
      rintro _ w2 ⟨nc2, rfl, hlt2, hgt2, hk2⟩
      have hk2' := hk2.size
      refine X.dTake 14 rfl (by kernel_rfl) (by kernel_rfl) (by kernel_rfl) (X.dwG rfl rfl rfl) (fun w' hk' => X.lss rfl rfl) ?_
      refine X.dTake 15 rfl (by kernel_rfl) (by kernel_rfl) (by kernel_rfl) (X.dwN rfl) (fun w' hk' => X.pickT (v := .bool _) rfl rfl) ?_
      refine X.dEnd (by kernel_rfl) ?_
      refine X.condB rfl (fun hc => ?_) (fun hc => ?_)
      · have hyx : y.1 < x.1 := hlt2.1 (by simpa using hc)
        refine X.skip ?_
        refine X.block ?_
        refine X.region ?_
        refine X.opw X.wN rfl (X.move (v := .int .i64 _) rfl) ?_
        refine X.opw X.wN rfl (X.add rfl rfl (X.w_i64 (by omega))) ?_
        refine X.opw X.wN rfl (X.assign (v := .int .i64 _) rfl) ?_
        refine X.opsEnd ?_
        refine X.inBlock ?_
        refine hback2 (j + 1) _ _ ⟨rfl, rfl, rfl, rfl, rfl, rfl, trivial⟩ ⟨by omega, (skip_at hy hyx).trans hsk, ((hwm.trans hk1).trans hk2), ((hkm.trans hk1).trans hk2)⟩ (by omega)
      · have hyx : ¬ y.1 < x.1 := fun h => by have := hlt2.2 h; simp at hc; omega
        have hski : skipT x (l1.drop j0) = l1.drop j := by rw [← hsk, drop_at hy]; exact (skip_stop hyx).1
        refine X.exit rfl ?_
        refine X.seq ?_
        refine X.regionD (fun _ => False) 18 (by kernel_rfl) (by kernel_rfl) (fun w3 hk3 hz3 => ?_)
        refine X.dTake 0 rfl (by kernel_rfl) (by kernel_rfl) (by kernel_rfl) (X.dwN rfl) (fun w' hk' => X.move (v := .int .i64 _) rfl) ?_
        refine X.dTake 1 rfl (by kernel_rfl) (by kernel_rfl) (by kernel_rfl) (X.dwN rfl) (fun w' hk' => X.move (v := .slice _ _ _) rfl) ?_
        refine X.dTake 2 rfl (by kernel_rfl) (by kernel_rfl) (by kernel_rfl) (X.dwN rfl) (fun w' hk' => X.lenSl Try.underlying24 rfl) ?_
        refine X.dTake 3 rfl (by kernel_rfl) (by kernel_rfl) (by kernel_rfl) (X.dwN rfl) (fun w' hk' => X.lss rfl rfl) ?_
        refine X.dTake 4 rfl (by kernel_rfl) (by kernel_rfl) (by kernel_rfl) (X.dwN rfl) (fun w' hk' => X.move (v := .bool _) rfl) ?_
        refine X.dTake 16 rfl (by kernel_rfl) (by kernel_rfl) (by kernel_rfl) (X.dwN rfl) (fun w' hk' => X.move (v := .bool _) rfl) ?_
        refine X.dFork 38 rfl (fun h38 => ?_) (fun h38 => ?_)
        · have hhas : hasT x (l1.drop j0) = decide (y.1 = x.1) := by rw [hasT, hski, drop_at hy]
          refine X.dTake 5 rfl (by kernel_rfl) (by kernel_rfl) (by kernel_rfl) (X.dwG rfl rfl rfl) (fun w' hk' => X.move (v := .slice _ _ _) rfl) ?_
          refine X.dTake 6 rfl (by kernel_rfl) (by kernel_rfl) (by kernel_rfl) (X.dwG rfl rfl rfl) (fun w' hk' => X.move (v := .int .i64 _) rfl) ?_
          refine X.dTake 7 rfl (by kernel_rfl) (by kernel_rfl) (by kernel_rfl) (X.dwG rfl rfl rfl) (fun w' hk' => X.idxS (hs1.keep ((((hkm.trans hk1).trans hk2).trans hk3).trans hk')) Try.underlying24 Try.sizeOf29 rfl rfl ⟨by omega, by omega⟩) ?_
          refine X.dTake 8 rfl (by kernel_rfl) (by kernel_rfl) (by kernel_rfl) (X.dwG rfl rfl rfl) (fun w' hk' => X.loadSN Try.isAgg29 Try.sizeOf29 (hs1.keep ((((hkm.trans hk1).trans hk2).trans hk3).trans hk')) hy rfl (fun _ h => h.1) rfl) ?_
          refine X.dTake 9 rfl (by kernel_rfl) (by kernel_rfl) (by kernel_rfl) (X.dwG rfl rfl rfl) (fun w' hk' => X.move (v := .slice _ _ _) rfl) ?_
          refine X.dTake 10 rfl (by kernel_rfl) (by kernel_rfl) (by kernel_rfl) (X.dwG rfl rfl rfl) (fun w' hk' => X.move (v := .int .i64 _) rfl) ?_
          refine X.dTake 11 rfl (by kernel_rfl) (by kernel_rfl) (by kernel_rfl) (X.dwG rfl rfl rfl) (fun w' hk' => X.idxS (hs0.keep ((((hkm.trans hk1).trans hk2).trans hk3).trans hk')) Try.underlying24 Try.sizeOf29 rfl rfl ⟨by omega, by omega⟩) ?_
          refine X.dTake 12 rfl (by kernel_rfl) (by kernel_rfl) (by kernel_rfl) (X.dwG rfl rfl rfl) (fun w' hk' => X.loadSN Try.isAgg29 Try.sizeOf29 (hs0.keep ((((hkm.trans hk1).trans hk2).trans hk3).trans hk')) hx rfl (fun _ h => h.1) rfl) ?_
          refine X.dE (i := 13) (by kernel_rfl) rfl (X.dwG rfl rfl rfl) (X.callE (Compare_c y x _) Try.call17 rfl rfl) (by rintro _ w4 ⟨nc4, rfl, hlt4, hgt4, hk4⟩ _; exact hk4.mono (fun _ _ h => h.elim)) ?_
          rintro _ w4 ⟨nc4, rfl, hlt4, hgt4, hk4⟩
          have hk4' := hk4.size
          refine X.dTake 14 rfl (by kernel_rfl) (by kernel_rfl) (by kernel_rfl) (X.dwG rfl rfl rfl) (fun w' hk' => X.eqI rfl rfl) ?_
          refine X.dTake 15 rfl (by kernel_rfl) (by kernel_rfl) (by kernel_rfl) (X.dwN rfl) (fun w' hk' => X.pickT (v := .bool _) rfl rfl) ?_
          refine X.dTake 17 rfl (by kernel_rfl) (by kernel_rfl) (by kernel_rfl) (X.dwN rfl) (fun w' hk' => X.eqB Try.underlying4 rfl rfl) ?_
          refine X.dEnd (by kernel_rfl) ?_
          refine X.condB rfl (fun hc2 => ?_) (fun hc2 => ?_)
          · have hq : hasT x (l1.drop j0) = t := by
              rw [hhas, show decide (y.1 = x.1) = decide (nc4 = 0) from decide_eq_decide.2 ⟨fun h => by have := mt hlt4.1 (by omega); have := mt hgt4.1 (by omega); omega, fun h => by have := mt hlt4.2 (by omega); have := mt hgt4.2 (by omega); omega⟩]
              simpa using hc2
            refine X.region ?_
            refine X.opw X.wN rfl (X.move rfl) ?_
            refine X.opw X.wN rfl (X.move (v := .slice _ _ _) rfl) ?_
            refine X.opw X.wN rfl (X.move (v := .int .i64 _) rfl) ?_
            refine X.opw X.wN rfl (X.idxS (hs0.keep ((((hkm.trans hk1).trans hk2).trans hk3).trans hk4)) Try.underlying24 Try.sizeOf29 rfl rfl ⟨by omega, by omega⟩) ?_
            refine X.opw X.wN rfl (X.loadSN Try.isAgg29 Try.sizeOf29 (hs0.keep ((((hkm.trans hk1).trans hk2).trans hk3).trans hk4)) hx rfl (fun _ h => h.1) rfl) ?_
            refine X.opE X.wN rfl (X.litKF KTh_flat (K := KTh) (xs := [Operand.tmp 56]) (vs := [evT x]) (ys := [x]) Try.underlying24 Try.sizeOf29 Try.zeroValue29 rfl rfl rfl rfl rfl (repsT x)) ?_
            rintro _ w5 ⟨rfl, hs5, hB5, hk5, hz5⟩
            refine X.opE X.wN rfl (X.appE (K := KTh) (S := fun k => w.heap.size ≤ k) KTh_flat Try.underlying24 ETh rfl rfl ((hMo.keep hwm).keep ((((hk1.trans hk2).trans hk3).trans hk4).trans hk5)) hs5 (by (try simp only [List.length_append, List.length_cons, List.length_nil, List.length_take, List.length_drop, List.length_map, List.length_range]); omega) (by intros; (try simp only [] at *); omega)) ?_
            rintro v6 w6 ⟨hM6, hx6⟩
            have hx6' := hx6.size
            refine X.opw X.wN rfl (X.assign rfl) ?_
            refine X.opsEnd ?_
            refine X.inBlock ?_
            refine X.region ?_
            refine X.opw X.wN rfl (X.move (v := .int .i64 _) rfl) ?_
            refine X.opw X.wN rfl (X.add rfl rfl (X.w_i64 (by omega))) ?_
            refine X.opw X.wN rfl (X.assign (v := .int .i64 _) rfl) ?_
            refine X.opsEnd ?_
            refine hback (i + 1, j, _, out ++ [x]) _ _ ⟨rfl, rfl, rfl, rfl, rfl, rfl, trivial⟩ ⟨by dsimp only; omega, hj, by dsimp only; rw [List.length_append]; simp only [List.length_cons, List.length_nil]; omega, by dsimp only; rw [← hh, held_at hx, if_pos hq, hski]; simp, hM6, ((((((hkm.trans hk1).trans hk2).trans hk3).trans hk4).trans hk5).step hx6 (by intros; (try simp only [] at *); omega))⟩ (by dsimp only; omega)
          · have hq : ¬ hasT x (l1.drop j0) = t := by
              rw [hhas, show decide (y.1 = x.1) = decide (nc4 = 0) from decide_eq_decide.2 ⟨fun h => by have := mt hlt4.1 (by omega); have := mt hgt4.1 (by omega); omega, fun h => by have := mt hlt4.2 (by omega); have := mt hgt4.2 (by omega); omega⟩]
              simpa using hc2
            refine X.skip ?_
            refine X.inBlock ?_
            refine X.region ?_
            refine X.opw X.wN rfl (X.move (v := .int .i64 _) rfl) ?_
            refine X.opw X.wN rfl (X.add rfl rfl (X.w_i64 (by omega))) ?_
            refine X.opw X.wN rfl (X.assign (v := .int .i64 _) rfl) ?_
            refine X.opsEnd ?_
            refine hback (i + 1, j, _, out) _ _ ⟨rfl, rfl, rfl, rfl, rfl, rfl, trivial⟩ ⟨by dsimp only; omega, hj, by dsimp only; omega, by dsimp only; rw [← hh, held_at hx, if_neg hq, hski]; simp, ((hMo.keep hwm).keep (((hk1.trans hk2).trans hk3).trans hk4)), ((((hkm.trans hk1).trans hk2).trans hk3).trans hk4)⟩ (by dsimp only; omega)
        · exact absurd (of_decide_eq_false h38) (by omega)
    · have hjn : ¬ j < n1 := by have := of_decide_eq_false h20; omega
      have hhas : hasT x (l1.drop j0) = false := by rw [hasT, ← hsk, List.drop_of_length_le (show l1.length ≤ j by omega)]; rfl
      have hski : skipT x (l1.drop j0) = l1.drop j := by rw [← hsk, List.drop_of_length_le (show l1.length ≤ j by omega)]; rfl
      refine X.dTakeS 5 rfl (by kernel_rfl) (by kernel_rfl) (by kernel_rfl) rfl rfl rfl rfl ?_
      refine X.dTakeS 6 rfl (by kernel_rfl) (by kernel_rfl) (by kernel_rfl) rfl rfl rfl rfl ?_
      refine X.dTakeS 7 rfl (by kernel_rfl) (by kernel_rfl) (by kernel_rfl) rfl rfl rfl rfl ?_
      refine X.dTakeS 8 rfl (by kernel_rfl) (by kernel_rfl) (by kernel_rfl) rfl rfl rfl rfl ?_
      refine X.dTakeS 9 rfl (by kernel_rfl) (by kernel_rfl) (by kernel_rfl) rfl rfl rfl rfl ?_
      refine X.dSkip (i := 10) (by kernel_rfl) rfl rfl rfl rfl rfl ?_
      refine X.dSkip (i := 11) (by kernel_rfl) rfl rfl rfl rfl rfl ?_
      refine X.dSkip (i := 12) (by kernel_rfl) rfl rfl rfl rfl rfl ?_
      refine X.dSkip (i := 13) (by kernel_rfl) rfl rfl rfl rfl rfl ?_
      refine X.dSkip (i := 14) (by kernel_rfl) rfl rfl rfl rfl rfl ?_
      refine X.dTake 15 rfl (by kernel_rfl) (by kernel_rfl) (by kernel_rfl) (X.dwN rfl) (fun w' hk' => X.pickF (v := .bool false) rfl rfl) ?_
      refine X.dEnd (by kernel_rfl) ?_
      refine X.condF rfl ?_
      refine X.exit rfl ?_
      refine X.seq ?_
      refine X.regionD (fun _ => False) 18 (by kernel_rfl) (by kernel_rfl) (fun w7 hk7 hz7 => ?_)
      refine X.dTake 0 rfl (by kernel_rfl) (by kernel_rfl) (by kernel_rfl) (X.dwN rfl) (fun w' hk' => X.move (v := .int .i64 _) rfl) ?_
      refine X.dTake 1 rfl (by kernel_rfl) (by kernel_rfl) (by kernel_rfl) (X.dwN rfl) (fun w' hk' => X.move (v := .slice _ _ _) rfl) ?_
      refine X.dTake 2 rfl (by kernel_rfl) (by kernel_rfl) (by kernel_rfl) (X.dwN rfl) (fun w' hk' => X.lenSl Try.underlying24 rfl) ?_
      refine X.dTake 3 rfl (by kernel_rfl) (by kernel_rfl) (by kernel_rfl) (X.dwN rfl) (fun w' hk' => X.lss rfl rfl) ?_
      refine X.dTake 4 rfl (by kernel_rfl) (by kernel_rfl) (by kernel_rfl) (X.dwN rfl) (fun w' hk' => X.move (v := .bool _) rfl) ?_
      refine X.dTake 16 rfl (by kernel_rfl) (by kernel_rfl) (by kernel_rfl) (X.dwN rfl) (fun w' hk' => X.move (v := .bool _) rfl) ?_
      refine X.dFork 38 rfl (fun h38 => ?_) (fun h38 => ?_)
      · exact absurd (of_decide_eq_true h38) (by omega)
      · 
        refine X.dTakeS 5 rfl (by kernel_rfl) (by kernel_rfl) (by kernel_rfl) rfl rfl rfl rfl ?_
        refine X.dTakeS 6 rfl (by kernel_rfl) (by kernel_rfl) (by kernel_rfl) rfl rfl rfl rfl ?_
        refine X.dTakeS 7 rfl (by kernel_rfl) (by kernel_rfl) (by kernel_rfl) rfl rfl rfl rfl ?_
        refine X.dTakeS 8 rfl (by kernel_rfl) (by kernel_rfl) (by kernel_rfl) rfl rfl rfl rfl ?_
        refine X.dTakeS 9 rfl (by kernel_rfl) (by kernel_rfl) (by kernel_rfl) rfl rfl rfl rfl ?_
        refine X.dSkip (i := 10) (by kernel_rfl) rfl rfl rfl rfl rfl ?_
        refine X.dSkip (i := 11) (by kernel_rfl) rfl rfl rfl rfl rfl ?_
        refine X.dSkip (i := 12) (by kernel_rfl) rfl rfl rfl rfl rfl ?_
        refine X.dSkip (i := 13) (by kernel_rfl) rfl rfl rfl rfl rfl ?_
        refine X.dSkip (i := 14) (by kernel_rfl) rfl rfl rfl rfl rfl ?_
        refine X.dTake 15 rfl (by kernel_rfl) (by kernel_rfl) (by kernel_rfl) (X.dwN rfl) (fun w' hk' => X.pickF (v := .bool false) rfl rfl) ?_
        refine X.dTake 17 rfl (by kernel_rfl) (by kernel_rfl) (by kernel_rfl) (X.dwN rfl) (fun w' hk' => X.eqB Try.underlying4 rfl rfl) ?_
        refine X.dEnd (by kernel_rfl) ?_
        refine X.condB rfl (fun hc2 => ?_) (fun hc2 => ?_)
        · have hq : hasT x (l1.drop j0) = t := by
            rw [hhas]
            simpa using hc2
          refine X.region ?_
          refine X.opw X.wN rfl (X.move rfl) ?_
          refine X.opw X.wN rfl (X.move (v := .slice _ _ _) rfl) ?_
          refine X.opw X.wN rfl (X.move (v := .int .i64 _) rfl) ?_
          refine X.opw X.wN rfl (X.idxS (hs0.keep ((hkm.trans hk1).trans hk7)) Try.underlying24 Try.sizeOf29 rfl rfl ⟨by omega, by omega⟩) ?_
          refine X.opw X.wN rfl (X.loadSN Try.isAgg29 Try.sizeOf29 (hs0.keep ((hkm.trans hk1).trans hk7)) hx rfl (fun _ h => h.1) rfl) ?_
          refine X.opE X.wN rfl (X.litKF KTh_flat (K := KTh) (xs := [Operand.tmp 56]) (vs := [evT x]) (ys := [x]) Try.underlying24 Try.sizeOf29 Try.zeroValue29 rfl rfl rfl rfl rfl (repsT x)) ?_
          rintro _ w8 ⟨rfl, hs8, hB8, hk8, hz8⟩
          refine X.opE X.wN rfl (X.appE (K := KTh) (S := fun k => w.heap.size ≤ k) KTh_flat Try.underlying24 ETh rfl rfl ((hMo.keep hwm).keep ((hk1.trans hk7).trans hk8)) hs8 (by (try simp only [List.length_append, List.length_cons, List.length_nil, List.length_take, List.length_drop, List.length_map, List.length_range]); omega) (by intros; (try simp only [] at *); omega)) ?_
          rintro v9 w9 ⟨hM9, hx9⟩
          have hx9' := hx9.size
          refine X.opw X.wN rfl (X.assign rfl) ?_
          refine X.opsEnd ?_
          refine X.inBlock ?_
          refine X.region ?_
          refine X.opw X.wN rfl (X.move (v := .int .i64 _) rfl) ?_
          refine X.opw X.wN rfl (X.add rfl rfl (X.w_i64 (by omega))) ?_
          refine X.opw X.wN rfl (X.assign (v := .int .i64 _) rfl) ?_
          refine X.opsEnd ?_
          refine hback (i + 1, j, _, out ++ [x]) _ _ ⟨rfl, rfl, rfl, rfl, rfl, rfl, trivial⟩ ⟨by dsimp only; omega, hj, by dsimp only; rw [List.length_append]; simp only [List.length_cons, List.length_nil]; omega, by dsimp only; rw [← hh, held_at hx, if_pos hq, hski]; simp, hM9, ((((hkm.trans hk1).trans hk7).trans hk8).step hx9 (by intros; (try simp only [] at *); omega))⟩ (by dsimp only; omega)
        · have hq : ¬ hasT x (l1.drop j0) = t := by
            rw [hhas]
            simpa using hc2
          refine X.skip ?_
          refine X.inBlock ?_
          refine X.region ?_
          refine X.opw X.wN rfl (X.move (v := .int .i64 _) rfl) ?_
          refine X.opw X.wN rfl (X.add rfl rfl (X.w_i64 (by omega))) ?_
          refine X.opw X.wN rfl (X.assign (v := .int .i64 _) rfl) ?_
          refine X.opsEnd ?_
          refine hback (i + 1, j, _, out) _ _ ⟨rfl, rfl, rfl, rfl, rfl, rfl, trivial⟩ ⟨by dsimp only; omega, hj, by dsimp only; omega, by dsimp only; rw [← hh, held_at hx, if_neg hq, hski]; simp, ((hMo.keep hwm).keep (hk1.trans hk7)), ((hkm.trans hk1).trans hk7)⟩ (by dsimp only; omega)
  · refine X.opsEnd ?_
    refine X.condF rfl ?_
    refine X.exit rfl ?_
    refine X.seq ?_
    refine X.region ?_
    refine X.opw X.wN rfl (X.move rfl) ?_
    refine X.opw X.wN rfl (X.assign rfl) ?_
    refine X.opsEnd ?_
    refine X.ret1 Try.func30 Try.results30 rfl ?_
    exact ⟨by rw [List.drop_of_length_le (show l0.length ≤ i by omega)] at hh; rw [show out = heldL t l0 l1 by rw [← hh]; simp [heldL]] at hMo; exact hMo.keep (Keep.refl _), hk⟩
end Go.Proofs.Ytgfficbkajcdpaa
