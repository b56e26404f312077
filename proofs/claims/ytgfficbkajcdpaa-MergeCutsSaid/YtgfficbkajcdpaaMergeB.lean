/- Cursors over rows. -/
import Derived.Test.YtgfficbkajcdpaaMergeA
import Derived.Test.YtgfficbkajcdpaaProg
namespace Go.Proofs.Ytgfficbkajcdpaa
open Go Go.Proofs.Ytgfficbkajcdpaa.X
set_option linter.unusedVariables false
set_option linter.unusedSimpArgs false
theorem fresh_t {w w' : World} {v : Value} {l : List TH} (h : Fresh KTh 29 w w' v l) : ∃ A c, v = .slice A l.length c ∧ l.length ≤ c ∧ Sl KTh w.heap.size w'.heap.size w' A l.length l ∧ Keep w w' := by
  obtain ⟨A, c, h1, h2, h3⟩ := (h.1.flat KTh_flat (lo' := w.heap.size) (hi' := w'.heap.size)).sl (fun k hk hs => ⟨hs, hk⟩)
  exact ⟨A, c, h1, h2, h3, h.2⟩
-- f50 "slices.Clone[[]pedigree/pedigreeref09.Thing,pedigree/pedigreeref09.Thing]" params [24] results [24] ->
set_option maxHeartbeats 4000000 in
set_option maxRecDepth 100000 in
theorem Clone_c {lo hi : Nat} {A : Option Addr} {n c : Nat} {l : List TH} (w : World) (hs : Sl KTh lo hi w A n l) (hn : n ≤ 1000000) : Ret Try.prog 50 #[.slice A n c] w fun r w' => Fresh KTh 29 w w' r l := by
  have hl := hs.len
  refine X.enter Try.func50 rfl Try.ntmps50 rfl ?_
  refine X.seq ?_
  refine X.region ?_
  refine X.opw X.wN rfl (X.assign rfl) ?_
  refine X.opsEnd ?_
  refine X.seq ?_
  refine X.seq ?_
  refine X.region ?_
  refine X.opw X.wN rfl (X.move (v := .slice _ _ _) rfl) ?_
  refine X.opB X.wN rfl rfl (X.eqNil Try.underlying24 rfl rfl) (fun h4 => ?_) (fun h4 => ?_)
  · refine X.opsEnd ?_
    refine X.condT rfl ?_
    refine X.seq ?_
    refine X.region ?_
    refine X.opw X.wN rfl (X.assign rfl) ?_
    refine X.opsEnd ?_
    refine X.ret1 Try.func50 Try.results50 rfl ?_
    refine ⟨?_, (Keep.refl _)⟩
    rcases Nat.eq_zero_or_pos n with h | h
    · have hq : l = [] := List.eq_nil_of_length_eq_zero (by omega)
      subst hq; exact (Mine.nil _ _ _ _ _ _)
    · obtain ⟨ad, e, _⟩ := hs.at_ h
      subst e; simp at h4
  · refine X.opsEnd ?_
    refine X.condF rfl ?_
    refine X.skip ?_
    refine X.seq ?_
    refine X.region ?_
    refine X.opE X.wN rfl (X.lit0E (K := KTh) (S := fun k => w.heap.size ≤ k) Try.underlying24 Try.sizeOf29 (by intros; (try simp only [] at *); omega)) ?_
    rintro v1 w1 ⟨hM1, hk1, hz1⟩
    refine X.opw X.wN rfl (X.move (v := .slice _ _ _) rfl) ?_
    refine X.opE X.wN rfl (X.appE (K := KTh) (S := fun k => w.heap.size ≤ k) KTh_flat Try.underlying24 ETh rfl rfl hM1 (hs.keep hk1) (by (try simp only [List.length_append, List.length_cons, List.length_nil, List.length_take, List.length_drop, List.length_map, List.length_range]); omega) (by intros; (try simp only [] at *); omega)) ?_
    rintro v2 w2 ⟨hM2, hx2⟩
    have hx2' := hx2.size
    refine X.opw X.wN rfl (X.assign rfl) ?_
    refine X.opsEnd ?_
    refine X.ret1 Try.func50 Try.results50 rfl ?_
    exact ⟨hM2, (hk1.step hx2 (by intros; (try simp only [] at *); omega))⟩
-- f51 "pedigree/merge.Of[pedigree/pedigreeref09.Thing]$1" params [] results [29, 4] -> [(ResultVar.cell 2 29)
set_option maxHeartbeats 4000000 in
set_option maxRecDepth 100000 in
theorem Of1_c (i bi br : Nat) (hne : bi ≠ br) {lo hh : Nat} {A : Option Addr} {n c : Nat} {l : List TH} (w : World) (hs : Sl KTh lo hh w A n l) (hi : i ≤ n) (hn : n ≤ 1000000) (hbi : Blk w bi [.int .i64 (i : Int)] 3) (hbr : Blk w br [.slice A n c] 24) (hd : bi < lo ∨ hh ≤ bi) : Ret Try.prog 51 #[.pointer (some ⟨bi, 0, none⟩), .pointer (some ⟨br, 0, none⟩)] w fun r w' => r = hdV evT (0, 0) (l.drop i) ∧ Ext (fun k => k = bi) w w' ∧ (l.drop i ≠ [] → i < n ∧ Blk w' bi [.int .i64 ((i + 1 : Nat) : Int)] 3) := by
  have hl := hs.len
  have hbil := hbi.lt
  have hbrl := hbr.lt
  refine X.enter Try.func51 rfl Try.ntmps51 rfl ?_
  refine X.seq ?_
  refine X.region ?_
  refine X.opE X.wN rfl (X.allocE Try.zeroValue29 rfl) ?_
  rintro _ w1 ⟨rfl, hB1, hk1, hz1⟩
  refine X.opw X.wN rfl (X.assign rfl) ?_
  refine X.opsEnd ?_
  refine X.seq ?_
  refine X.seq ?_
  refine X.region ?_
  refine X.opw X.wN rfl (X.load1B Try.isAgg3 (hbi.keep hk1) rfl rfl) ?_
  refine X.opw X.wN rfl (X.load1B Try.isAgg24 (hbr.keep hk1) rfl rfl) ?_
  refine X.opw X.wN rfl (X.lenSl Try.underlying24 rfl) ?_
  refine X.opP X.wN rfl rfl (X.eqI rfl rfl) (fun h7 => ?_) (fun h7 => ?_)
  · refine X.opsEnd ?_
    refine X.condT rfl ?_
    refine X.seq ?_
    refine X.region ?_
    refine X.opw X.wN rfl (X.loadNB Try.isAgg29 Try.sizeOf29 hB1 rfl rfl rfl) ?_
    refine X.opE X.wN rfl (X.storeNE Try.sizeOf29 hB1 rfl rfl rfl rfl (fun u hu => by simp at hu; rcases hu with rfl | rfl <;> rfl)) ?_
    rintro _ w2 ⟨hB2, hx2, hz2⟩
    refine X.opw X.wN rfl (X.assign rfl) ?_
    refine X.opsEnd ?_
    refine X.ret_unw (X.unwR2 Try.func51 Try.results51 (X.ResOk.cell rfl (X.lvN Try.isAgg29 Try.sizeOf29 hB2 rfl)) (show X.ResOk _ _ _ (.tmp 3) (.bool _) from rfl) ?_)
    rw [List.drop_of_length_le (show l.length ≤ i by omega)]
    exact ⟨rfl, (Ext.andThen (Ext.andThen (Ext.refl (fun k => k = bi) _) hk1 (by intro k h1 h2; first | exact h2.elim | omega | (simp only [] at *; omega))) hx2 (by intro k h1 h2; first | exact h2.elim | omega | (simp only [] at *; omega))), fun h => absurd rfl h⟩
  · obtain ⟨x, hx⟩ := getN i hl (by omega)
    refine X.opsEnd ?_
    refine X.condF rfl ?_
    refine X.skip ?_
    refine X.seq ?_
    refine X.region ?_
    refine X.opw X.wN rfl (X.load1B Try.isAgg3 (hbi.keep hk1) rfl rfl) ?_
    refine X.opw X.wN rfl (X.add (c := ((i + 1 : Nat) : Int)) rfl rfl (by rw [X.w_i64 (by omega)]; omega)) ?_
    refine X.opE X.wN rfl (X.storeE Try.sizeOf3 (hbi.keep hk1) rfl rfl rfl rfl) ?_
    rintro _ w3 ⟨hB3, hx3, hz3⟩
    refine X.opsEnd ?_
    refine X.seq ?_
    refine X.region ?_
    refine X.opw X.wN rfl (X.load1B Try.isAgg24 ((hbr.keep hk1).ext hx3 (by intros; (try simp only []); omega)) rfl rfl) ?_
    refine X.opw X.wN rfl (X.load1B Try.isAgg3 hB3 rfl rfl) ?_
    refine X.opw X.wN rfl (X.sub (c := (i : Int)) rfl rfl (by rw [X.w_i64 (by omega)]; omega)) ?_
    refine X.opw X.wN rfl (X.idxS ((hs.keep hk1).ext hx3 (by intros; (try simp only []); omega)) Try.underlying24 Try.sizeOf29 rfl rfl ⟨by omega, by omega⟩) ?_
    refine X.opw X.wN rfl (X.loadSN Try.isAgg29 Try.sizeOf29 ((hs.keep hk1).ext hx3 (by intros; (try simp only []); omega)) hx rfl (fun _ h => h.1) rfl) ?_
    refine X.opE X.wN rfl (X.storeNE Try.sizeOf29 (hB1.ext hx3 (by intros; (try simp only []); omega)) rfl rfl rfl rfl (fun u hu => by simp at hu; rcases hu with rfl | rfl <;> rfl)) ?_
    rintro _ w4 ⟨hB4, hx4, hz4⟩
    refine X.opw X.wN rfl (X.assign rfl) ?_
    refine X.opsEnd ?_
    refine X.ret_unw (X.unwR2 Try.func51 Try.results51 (X.ResOk.cell rfl (X.lvN Try.isAgg29 Try.sizeOf29 hB4 rfl)) (show X.ResOk _ _ _ (.tmp 3) (.bool _) from rfl) ?_)
    rw [drop_at hx]
    exact ⟨rfl, (Ext.andThen (Ext.andThen (Ext.andThen (Ext.refl (fun k => k = bi) _) hk1 (by intro k h1 h2; first | exact h2.elim | omega | (simp only [] at *; omega))) hx3 (by intro k h1 h2; first | exact h2.elim | omega | (simp only [] at *; omega))) hx4 (by intro k h1 h2; first | exact h2.elim | omega | (simp only [] at *; omega))), fun _ => ⟨by omega, (hB3.ext hx4 (by intros; (try simp only []); omega))⟩⟩
theorem Sl.agree {lo hi B : Nat} {T : Nat → Prop} {w w' : World} {A : Option Addr} {n : Nat} {l : List TH} (h : Sl KTh lo hi w A n l) (ha : Agree T B w w') (hT : ∀ k, lo ≤ k → k < hi → k < B ∨ T k) : Sl KTh lo hi w' A n l :=
  Sl.ext h ha (fun k h1 h2 h3 => (hT k h1 h2).elim (fun h => by omega) h3.2)
/-- A row's step. -/
theorem of_stp (B a b bi br : Nat) (hne : bi ≠ br) {lo hi : Nat} {A : Option Addr} {n c : Nat} {l : List TH} (w : World) (hs : Sl KTh lo hi w A n l) (hn : n ≤ 1000000) (hbi : Blk w bi [.int .i64 0] 3) (hbr : Blk w br [.slice A n c] 24) (hd : bi < lo ∨ hi ≤ bi) (h1 : a ≤ lo) (h2 : hi ≤ b) (h3 : a ≤ bi ∧ bi < b) (h4 : a ≤ br ∧ br < b) :
    Stp Try.prog evT (0, 0) B (fun k => a ≤ k ∧ k < b) (.func (.func 51) #[] #[.pointer (some ⟨bi, 0, none⟩), .pointer (some ⟨br, 0, none⟩)]) l w := by
  refine ⟨fun xs w => ∃ i, i ≤ n ∧ xs = l.drop i ∧ Blk w bi [.int .i64 (i : Int)] 3 ∧ Blk w br [.slice A n c] 24 ∧ Sl KTh lo hi w A n l, ⟨0, Nat.zero_le _, rfl, hbi, hbr, hs⟩, ?_, ?_⟩
  · rintro xs w w' ⟨i, g1, g2, g3, g4, g5⟩ ha
    exact ⟨i, g1, g2, ha.blk g3 h3, ha.blk g4 h4, Sl.agree g5 ha fun k x y => .inr ⟨by omega, by omega⟩⟩
  · rintro xs w ⟨i, g1, rfl, g3, g4, g5⟩
    refine YC.of_ret (args := []) (cap := [_, _]) ((Of1_c i bi br hne w g5 g1 hn g3 g4 hd).mono ?_) Try.call51
    rintro r w' ⟨rfl, hx, hn'⟩
    refine ⟨rfl, hx.mono fun k _ hk => by rw [show k = bi from hk]; exact h3, fun hne' => ?_⟩
    obtain ⟨q1, q2⟩ := hn' hne'
    exact ⟨i + 1, q1, by rw [List.tail_drop], q2, g4.ext hx (fun e => hne e.symm), g5.ext hx (by intro k x y e; have e : k = bi := e; omega)⟩
/-- A cursor as an interface value. -/
def CV (B : Nat) (T : Nat → Prop) (c : Value) (xs : List TH) (w : World) : Prop := (c = .nilIface ∧ xs = []) ∨ ∃ p, c = .iface 84 p ∧ Cur Try.prog evT (0, 0) 98 B T p xs w
theorem CV.agree {B : Nat} {T : Nat → Prop} {c : Value} {xs : List TH} {w w' : World} (h : CV B T c xs w) (ha : Agree T B w w') : CV B T c xs w' := h.imp id fun ⟨p, h1, h2⟩ => ⟨p, h1, h2.agree ha⟩
theorem CV.wide {B : Nat} {T U : Nat → Prop} {c : Value} {xs : List TH} {w : World} (h : CV B T c xs w) (hU : ∀ k, T k → U k) : CV B U c xs w := h.imp id fun ⟨p, h1, h2⟩ => ⟨p, h1, h2.wide hU⟩
theorem CV.one {B : Nat} {T : Nat → Prop} {c : Value} {xs : List TH} {w : World} (h : CV B T c xs w) : c.oneCell' = true := by
  rcases h with ⟨rfl, _⟩ | ⟨p, rfl, _⟩ <;> rfl
/-- What is made of a step. -/
theorem cur_made {B bm a b : Nat} {fv : Value} {xs : List TH} {w : World} (h : Stp Try.prog evT (0, 0) B (fun k => a ≤ k ∧ k < b) fv xs w) (hb : Blk w bm [fv, .bool false] 87) (hBm : B ≤ bm) (hT : b ≤ bm) (hab : a ≤ bm) : CV B (fun k => a ≤ k ∧ k < bm + 1) (.iface 84 (.pointer (some ⟨bm, 0, none⟩))) xs w := by
  have hlt := hb.lt
  refine .inr ⟨_, rfl, (Cur.made h hb hBm (fun h => by omega) (fun k hk => by omega) (fun w h => next_over fv bm w h) (fun xs w R h1 h2 h3 => next_step fv bm _ (fun h => by omega) xs w R h1 h2 h3)).wide fun k hk => ?_⟩
  rcases hk with hk | hk <;> omega
-- f20 "pedigree/merge.Of[pedigree/pedigreeref09.Thing]" params [24] results [33] -> [(ResultVar.tmp 2)] nfree
set_option maxHeartbeats 4000000 in
set_option maxRecDepth 100000 in
theorem Of_c (B : Nat) {lo hi : Nat} {A : Option Addr} {n c : Nat} {l : List TH} (w : World) (hs : Sl KTh lo hi w A n l) (hB : B ≤ w.heap.size) (hn : n ≤ 1000000) : Ret Try.prog 20 #[.slice A n c] w fun r w' => ∃ bm, r = .iface 84 (.pointer (some ⟨bm, 0, none⟩)) ∧ CV B (fun k => w.heap.size ≤ k ∧ k < w'.heap.size) r l w' ∧ Keep w w' := by
  have hl := hs.len
  refine X.enter Try.func20 rfl Try.ntmps20 rfl ?_
  refine X.seq ?_
  refine X.region ?_
  refine X.opE X.wN rfl (X.boxE rfl rfl) ?_
  rintro _ w1 ⟨rfl, hB1, hk1, hz1⟩
  refine X.opw X.wN rfl (X.assign rfl) ?_
  refine X.opsEnd ?_
  refine X.seq ?_
  refine X.region ?_
  refine X.opw X.wN rfl (X.load1B Try.isAgg24 hB1 rfl rfl) ?_
  refine X.opE X.wN rfl (X.callE ((Clone_c _ (hs.keep hk1) hn).mono fun _ _ h => fresh_t h) Try.call50 rfl rfl) ?_
  rintro _ w2 ⟨A2, c2, rfl, hc2, hs2, hk2⟩
  have hk2' := hk2.size
  refine X.opE X.wN rfl (X.storeE Try.sizeOf24 (hB1.keep hk2) rfl rfl rfl rfl) ?_
  rintro _ w3 ⟨hB3, hx3, hz3⟩
  refine X.opsEnd ?_
  refine X.seq ?_
  refine X.region ?_
  refine X.opE X.wN rfl (X.allocE Try.zeroValue3 rfl) ?_
  rintro _ w4 ⟨rfl, hB4, hk4, hz4⟩
  refine X.opE X.wN rfl (X.storeE Try.sizeOf3 hB4 rfl rfl rfl rfl) ?_
  rintro _ w5 ⟨hB5, hx5, hz5⟩
  refine X.opsEnd ?_
  refine X.seq ?_
  refine X.region ?_
  refine X.opw X.wN rfl (X.mkFunc rfl) ?_
  refine X.opw X.wN rfl (X.buildB (vs := [(0, .func (.func 51) #[] #[.pointer (some ⟨w3.heap.size, 0, none⟩), .pointer (some ⟨w.heap.size, 0, none⟩)])]) (cs := #[.func (.func 51) #[] #[.pointer (some ⟨w3.heap.size, 0, none⟩), .pointer (some ⟨w.heap.size, 0, none⟩)], .bool false]) rfl (by kernel_rfl)) ?_
  refine X.opE X.wN rfl (X.boxE rfl rfl) ?_
  rintro _ w6 ⟨rfl, hB6, hk6, hz6⟩
  refine X.opw X.wN rfl (X.mkIface Try.underlying84 rfl rfl) ?_
  refine X.opw X.wN rfl (X.assign rfl) ?_
  refine X.opsEnd ?_
  refine X.ret1 Try.func20 Try.results20 rfl ?_
  exact ⟨_, rfl, (cur_made (of_stp B w.heap.size (w3.heap.size + 1) w3.heap.size w.heap.size (by omega) _ ((hs2.ext hx3 (by intros; (try simp only []); omega)).keep ((hk4.step hx5 (by intros; (try simp only [] at *); omega)).trans hk6)) (by have := hs2.len; omega) (hB5.keep hk6) (hB3.keep ((hk4.step hx5 (by intros; (try simp only [] at *); omega)).trans hk6)) (by omega) (by omega) (by omega) (by omega) (by omega)) hB6 (by omega) (by omega) (by omega)).wide (fun k hk => by omega), (((((hk1.trans hk2).step hx3 (by intros; (try simp only [] at *); omega)).trans hk4).step hx5 (by intros; (try simp only [] at *); omega)).trans hk6)⟩
end Go.Proofs.Ytgfficbkajcdpaa
