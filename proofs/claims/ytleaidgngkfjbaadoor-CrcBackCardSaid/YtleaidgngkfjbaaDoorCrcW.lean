/- The program's scan: a range over a function. -/
import Derived.Test.YtleaidgngkfjbaaDoorCrcV
namespace Go.Proofs.YtleaidgngkfjbaaDoor
open Go Go.Proofs.YtleaidgngkfjbaaDoor.X
set_option linter.unusedVariables false
set_option linter.unusedSimpArgs false
-- f44 "pedigree/crc.pieces$1" params [70] results [] -> [] nfree 1 ntmps 24 names ["yield", "", "yield", "p",
set_option maxHeartbeats 4000000 in
set_option maxRecDepth 100000 in
theorem pieces1_c (yv : Value) (bl hi : Nat) (J : List UInt8 → World → Prop) {lo : Nat} {A : Option Addr} {n c : Nat} {l : List UInt8} (w : World) (hB : Blk w bl [.slice A n c] 22) (hs : Sl KB lo hi w A n l) (hb1 : hi ≤ bl) (hb2 : 0 < bl) (hnc : n ≤ c) (hn : n ≤ 1000000) (hT : TabOk w) (hJ0 : J l w)
    (hJ : ∀ l1 w1 w2, J l1 w1 → Ext (fun k => k = bl) w1 w2 → J l1 w2)
    (hy : ∀ (l1 : List UInt8) (w1 w2 : World) (A1 : Option Addr) (c1 : Nat), J l1 w1 → Keep w1 w2 → (unframeC l1).1 = 0 → (unframeC l1).2.2.1.length ≤ c1 → Sl KB w1.heap.size w2.heap.size w2 A1 (unframeC l1).2.2.1.length (unframeC l1).2.2.1 →
      YC Tryd.prog yv [.agg #[.int .u8 ((unframeC l1).2.1.toNat : Int), .slice A1 (unframeC l1).2.2.1.length c1], .int .i64 (unframeC l1).2.2.2] w2 fun v w3 => v = .bool true ∧ J (l1.drop (unframeC l1).2.2.2.toNat) w3 ∧ Ext (fun k => hi ≤ k ∧ k ≠ bl ∧ k ≠ 0) w2 w3) :
    Ret Tryd.prog 44 #[yv, .pointer (some ⟨bl, 0, none⟩)] w fun v w' => v = .tuple #[] ∧ ∃ l1, (unframeC l1).1 ≠ 0 ∧ J l1 w' := by
  refine X.enter Tryd.func44 rfl Tryd.ntmps44 rfl ?_
  refine X.block ?_
  -- LOOP live: 0=yield, 1
  refine X.loopL (σ := List UInt8 × Option Addr × Nat × Nat) (fun s => [(0, yv), (1, .pointer (some ⟨bl, 0, none⟩))]) (fun s w' => Blk w' bl [.slice s.2.1 s.2.2.1 s.2.2.2] 22 ∧ Sl KB lo hi w' s.2.1 s.2.2.1 s.1 ∧ s.2.2.1 ≤ s.2.2.2 ∧ s.2.2.1 ≤ 1000000 ∧ TabOk w' ∧ J s.1 w') (fun s => s.1.length) (l, A, n, c) ⟨rfl, rfl, trivial⟩ ⟨hB, hs, hnc, hn, hT, hJ0⟩ ?_
  rintro ⟨l1, Aq, nq, cq⟩ b0 wl ⟨hBq, hsq, hncq, hnq, hTq, hJq⟩ hback
  dsimp only
  simp only at hBq hsq hncq hnq hJq
  have hbl := hBq.lt
  refine X.block ?_
  refine X.seq ?_
  refine X.region ?_
  refine X.opw X.wN rfl (X.load1B Tryd.isAgg22 hBq rfl rfl) ?_
  refine X.opE X.wN rfl (X.callE ((Unframe_c _ hsq (by omega) (by omega) (hTq.keep (Keep.refl _))).mono fresh3t) Tryd.call19 rfl rfl) ?_
  rintro _ w1 ⟨A1, c1, rfl, hc1, hs1, hk1⟩
  have hk1' := hk1.size
  refine X.opw X.wN rfl (X.move rfl) ?_
  refine X.opw X.wN rfl (X.extr rfl rfl) ?_
  refine X.opw X.wN rfl (X.extr rfl rfl) ?_
  refine X.opw X.wN rfl (X.extr rfl rfl) ?_
  refine X.opE X.wN rfl (X.allocE Tryd.zeroValue33 rfl) ?_
  rintro _ w2 ⟨rfl, hB2, hk2, hz2⟩
  refine X.opE X.wN rfl (X.storeNE Tryd.sizeOf33 hB2 rfl rfl rfl rfl (fun u hu => by simp at hu; rcases hu with rfl | rfl <;> rfl)) ?_
  rintro _ w3 ⟨hB3, hx3, hz3⟩
  refine X.opw X.wN rfl (X.assign (v := .int .i64 _) rfl) ?_
  refine X.opw X.wN rfl (X.assign (v := .int .i64 _) rfl) ?_
  refine X.opsEnd ?_
  refine X.seq ?_
  refine X.seq ?_
  refine X.region ?_
  refine X.opw X.wN rfl (X.move (v := .int .i64 _) rfl) ?_
  refine X.opP X.wN rfl rfl (X.neI rfl rfl) (fun h13 => ?_) (fun h13 => ?_)
  · refine X.opw X.wN rfl (X.move (v := .bool true) rfl) ?_
    refine X.opS rfl rfl rfl rfl rfl ?_
    refine X.opS rfl rfl rfl rfl rfl ?_
    refine X.opS rfl rfl rfl rfl rfl ?_
    refine X.opS rfl rfl rfl rfl rfl ?_
    refine X.opS rfl rfl rfl rfl rfl ?_
    refine X.opw X.wN rfl (X.pickT (v := .bool true) rfl rfl) ?_
    refine X.opsEnd ?_
    refine X.condT rfl ?_
    refine X.ret0 Tryd.func44 Tryd.results44 ?_
    exact ⟨rfl, l1, h13, hJ _ _ _ hJq (Ext.mono ((hk1.trans hk2).step hx3 (by intros; (try simp only [] at *); omega)) fun _ _ h => h.elim)⟩
  · obtain ⟨m, hm1, hm2, hm3⟩ := unf_ok (Decidable.not_not.1 h13)
    have hl1 := hsq.len
    refine X.opw X.wN rfl (X.move (v := .bool false) rfl) ?_
    refine X.opw (X.wG rfl rfl rfl) rfl (X.move rfl) ?_
    refine X.opw (X.wG rfl rfl rfl) rfl (X.loadNB Tryd.isAgg33 Tryd.sizeOf33 hB3 rfl rfl rfl) ?_
    refine X.opw (X.wG rfl rfl rfl) rfl (X.move (v := .int .i64 _) rfl) ?_
    refine X.opE (X.wG rfl rfl rfl) rfl ((hy l1 wl _ A1 c1 hJq ((hk1.trans hk2).step hx3 (by intros; (try simp only [] at *); omega)) (Decidable.not_not.1 h13) hc1 ((hs1.keep (hk2.step hx3 (by intros; (try simp only [] at *); omega))).wide (Nat.le_refl _) (by omega))) _ _ _ _ _ _ _ _ _ rfl rfl) ?_
    rintro _ w4 ⟨rfl, hJ2, hx4⟩
    have hx4' := hx4.size
    refine X.opw (X.wG rfl rfl rfl) rfl (X.not_ rfl) ?_
    refine X.opw X.wN rfl (X.pickF (v := .bool _) rfl rfl) ?_
    refine X.opsEnd ?_
    refine X.condB rfl (fun hc => ?_) (fun hc => ?_)
    · cases hc
    · refine X.skip ?_
      refine X.region ?_
      refine X.opw X.wN rfl (X.load1B Tryd.isAgg22 ((hBq.keep ((hk1.trans hk2).step hx3 (by intros; (try simp only [] at *); omega))).ext hx4 (by intros; (try simp only []); omega)) rfl rfl) ?_
      refine X.opw X.wN rfl (X.move (v := .int .i64 _) rfl) ?_
      refine X.opw X.wN rfl (X.cutL Tryd.underlying22 Tryd.sizeOf5 rfl rfl (by omega)) ?_
      refine X.opE X.wN rfl (X.storeE Tryd.sizeOf22 ((hBq.keep ((hk1.trans hk2).step hx3 (by intros; (try simp only [] at *); omega))).ext hx4 (by intros; (try simp only []); omega)) rfl rfl rfl rfl) ?_
      rintro _ w5 ⟨hB5, hx5, hz5⟩
      refine X.opsEnd ?_
      refine X.inBlock ?_
      refine hback (l1.drop (unframeC l1).2.2.2.toNat, _, _, _) _ _ ⟨rfl, rfl, trivial⟩ ⟨hB5, ((((hsq.drop (unframeC l1).2.2.2.toNat cq (by omega) hncq).keep ((hk1.trans hk2).step hx3 (by intros; (try simp only [] at *); omega))).ext hx4 (by intros; (try simp only []); omega)).ext hx5 (by intros; (try simp only []); omega)), by dsimp only; omega, by dsimp only; omega, (((((hTq.keep hk1).keep hk2).ext hx3 (by (try simp only []); omega)).ext hx4 (by (try simp only []); omega)).ext hx5 (by (try simp only []); omega)), hJ _ _ _ hJ2 hx5⟩ (by dsimp only; rw [List.length_drop]; omega)
-- f41 "pedigree/crc.pieces" params [22] results [66] -> [(ResultVar.tmp 2)] nfree 0 ntmps 4 names ["b", "b", 
set_option maxHeartbeats 4000000 in
set_option maxRecDepth 100000 in
theorem pieces_c {A : Option Addr} {n c : Nat} (w : World) : Ret Tryd.prog 41 #[.slice A n c] w fun v w' => v = .func (.func 44) #[] #[.pointer (some ⟨w.heap.size, 0, none⟩)] ∧ Blk w' w.heap.size [.slice A n c] 22 ∧ Keep w w' ∧ w'.heap.size = w.heap.size + 1 := by
  refine X.enter Tryd.func41 rfl Tryd.ntmps41 rfl ?_
  refine X.seq ?_
  refine X.region ?_
  refine X.opE X.wN rfl (X.boxE rfl rfl) ?_
  rintro _ w1 ⟨rfl, hB1, hk1, hz1⟩
  refine X.opw X.wN rfl (X.assign rfl) ?_
  refine X.opsEnd ?_
  refine X.seq ?_
  refine X.region ?_
  refine X.opw X.wN rfl (X.mkFunc rfl) ?_
  refine X.opw X.wN rfl (X.assign rfl) ?_
  refine X.opsEnd ?_
  refine X.ret1 Tryd.func41 Tryd.results41 rfl ?_
  exact ⟨rfl, hB1, hk1, by omega⟩
-- f28 "pedigree/crc.Scan" params [22] results [51, 3] -> [(ResultVar.tmp 2), (ResultVar.tmp 3)] nfree 0 ntmps
set_option maxHeartbeats 4000000 in
set_option maxRecDepth 100000 in
theorem Scan_c {lo hi : Nat} {A : Option Addr} {n c : Nat} {l : List UInt8} (w : World) (hs : Sl KB lo hi w A n l) (hhi : hi ≤ w.heap.size) (hnc : n ≤ c) (hn : n ≤ 1000000) (hT : TabOk w) : Ret Tryd.prog 28 #[.slice A n c] w fun r w' => ∃ v G base, r = .tuple #[v, .int .i64 ((scanC l).2 : Int)] ∧ PR 33 base G w' v (scanC l).1 ∧ w.heap.size ≤ base ∧ Keep w w' := by
  have hl := hs.len
  have hTl := hT.lt
  refine X.enter Tryd.func28 rfl Tryd.ntmps28 rfl ?_
  refine X.seq ?_
  refine X.region ?_
  refine X.opw X.wN rfl (X.assign rfl) ?_
  refine X.opw X.wN rfl (X.assign rfl) ?_
  refine X.opsEnd ?_
  refine X.seq ?_
  refine X.region ?_
  refine X.opE X.wN rfl (X.allocE Tryd.zeroValue51 rfl) ?_
  rintro _ w1 ⟨rfl, hB1, hk1, hz1⟩
  refine X.opsEnd ?_
  refine X.seq ?_
  refine X.region ?_
  refine X.opE X.wN rfl (X.allocE Tryd.zeroValue3 rfl) ?_
  rintro _ w2 ⟨rfl, hB2, hk2, hz2⟩
  refine X.opE X.wN rfl (X.storeE Tryd.sizeOf3 hB2 rfl rfl rfl rfl) ?_
  rintro _ w3 ⟨hB3, hx3, hz3⟩
  refine X.opsEnd ?_
  refine X.seq ?_
  refine X.seq ?_
  refine X.region ?_
  refine X.opw X.wN rfl (X.move (v := .slice _ _ _) rfl) ?_
  refine X.opE X.wN rfl (X.callE (pieces_c _) Tryd.call41 rfl rfl) ?_
  rintro _ w4 ⟨rfl, hB4, hk4, hz4⟩
  refine X.opsEnd ?_
  refine X.block ?_
  refine X.rangeFunc' (cap := [.pointer (some ⟨w3.heap.size, 0, none⟩)]) (Q := fun w' => ∃ at_ v ps G, (unframeC (l.drop at_)).1 ≠ 0 ∧ Behind l at_ ps ∧ Blk w' w.heap.size [v] 51 ∧ Blk w' (w1.heap.size) [.int .i64 (at_ : Int)] 3 ∧ PR 33 (w4.heap.size + 2) G w' v ps ∧ (∀ k, G k → w4.heap.size + 2 ≤ k) ∧ w'.heap[w4.heap.size]? = some (.deferred (some [])) ∧ Keep w w') rfl Tryd.call44 rfl rfl (fun rec wq T0 hr1 hr2 hr3 hr4 hrT hr5 hr6 hr7 hrl hrd kq zq => ?_) ?_
  · refine (pieces1_c _ w3.heap.size hi (fun l1 w' => (∃ at_ v ps G, l1 = l.drop at_ ∧ Behind l at_ ps ∧ Blk w' w.heap.size [v] 51 ∧ Blk w' (w1.heap.size) [.int .i64 (at_ : Int)] 3 ∧ PR 33 (w4.heap.size + 2) G w' v ps ∧ (∀ k, G k → w4.heap.size + 2 ≤ k) ∧ w'.heap[w4.heap.size + 1]? = some (.loop rec) ∧ w'.heap[w4.heap.size]? = some (.deferred (some [])) ∧ Keep w w')) (l := l) _ (hB4.keep kq) ((hs.keep (((hk1.trans hk2).step hx3 (by intros; (try simp only [] at *); omega)).trans hk4)).keep kq) (by omega) (by omega) hnc hn ((hT.keep (((hk1.trans hk2).step hx3 (by intros; (try simp only [] at *); omega)).trans hk4)).keep kq) ⟨0, _, [], fun _ => False, by simp, behind_0 l, (hB1.keep ((hk2.step hx3 (by intros; (try simp only [] at *); omega)).trans hk4)).keep kq, (hB3.keep hk4).keep kq, PR.nil _ _ _ (by omega), fun _ h => h.elim, hrl, hrd, (((hk1.trans hk2).step hx3 (by intros; (try simp only [] at *); omega)).trans hk4).trans kq⟩ ?_ ?_).mono ?_
    · rintro l1 wu wv ⟨at_, v, ps, G, h1, h2, h3, h4, h5, h6, h7, h8, h9⟩ x
      refine ⟨at_, v, ps, G, h1, h2, h3.ext x (by (try simp only []); omega), h4.ext x (by (try simp only []); omega), h5.ext x (fun k hk => ⟨by omega, fun hg => by have := h6 k hg; omega⟩), h6, (x.keep _ (Array.getElem?_eq_some_iff.1 h7).1 (by (try simp only []); omega)).trans h7, (x.keep _ (Array.getElem?_eq_some_iff.1 h8).1 (by (try simp only []); omega)).trans h8, h9.step x (by intros; (try simp only [] at *); omega)⟩
    · rintro l1 wu wv A1 c1 ⟨at_, v, ps, G, rfl, hbh, h3, h4, hP, h6, h7, h8, h9⟩ hk0 hcode hlc hsb
      obtain ⟨m, hm1, hm2, hm3⟩ := unf_ok hcode
      obtain ⟨hb1, hb2, hb3⟩ := id hbh
      rw [List.length_drop, hl] at hm3
      have h9' := h9.size
      have hk0' := hk0.size
      have hz1 := loop_lt h7
      have h7b := (hk0.keep _ hz1 id).trans h7
      have h8b := (hk0.keep _ (Array.getElem?_eq_some_iff.1 h8).1 id).trans h8
      refine YC.round (r := rec) (N := 21) h7b (by rw [hr5]; rfl) (by rw [hr5, hr4, fold2]; exact (hrT.put 10 _ (by decide)).put 11 _ (by decide)) ?_
      rw [hr3, hr6, hr7]
      refine X.seq ?_
      refine X.region ?_
      refine X.opE X.wN rfl (X.allocE Tryd.zeroValue33 rfl) ?_
      rintro _ w5 ⟨rfl, hB5, hk5, hz5⟩
      refine X.opE X.wN rfl (X.storeNE Tryd.sizeOf33 hB5 rfl rfl rfl rfl (fun u hu => by simp at hu; rcases hu with rfl | rfl <;> rfl)) ?_
      rintro _ w6 ⟨hB6, hx6, hz6⟩
      refine X.opsEnd ?_
      refine X.region ?_
      refine X.opw X.wN rfl (X.assign (v := .int .i64 _) rfl) ?_
      refine X.opsEnd ?_
      refine X.beginRound' (r := rec) ((hx6.keep _ (by omega) (by (try simp only []); omega)).trans ((hk5.keep _ (by omega) id).trans h7b)) hr1 (fun wb hLb hxb hzb => ?_)
      have hxb' := hxb.size
      refine X.block ?_
      refine X.seq ?_
      refine X.region ?_
      refine X.opw X.wN rfl (X.load1B Tryd.isAgg51 ((h3.keep ((hk0.trans hk5).step hx6 (by intros; (try simp only [] at *); omega))).ext hxb (by intros; (try simp only []); omega)) rfl rfl) ?_
      refine X.opw X.wN rfl (X.loadNB Tryd.isAgg33 Tryd.sizeOf33 (hB6.ext hxb (by intros; (try simp only []); omega)) rfl rfl rfl) ?_
      refine X.opE X.wN rfl (X.litKE (K := (KRN 2)) (xs := [Operand.tmp 13]) (vs := [.agg #[.int .u8 ((unframeC (l.drop at_)).2.1.toNat : Int), .slice A1 (unframeC (l.drop at_)).2.2.1.length c1]]) (ys := [.agg #[.int .u8 ((unframeC (l.drop at_)).2.1.toNat : Int), .slice A1 (unframeC (l.drop at_)).2.2.1.length c1]]) Tryd.underlying51 Tryd.sizeOf33 Tryd.zeroValue33 rfl rfl rfl rfl rfl (reps1 rfl rfl)) ?_
      rintro _ w7 ⟨rfl, hs7, hB7, hk7, hz7⟩
      refine X.opE X.wN rfl (X.PR.appE (lo := wu.heap.size) (hi := wv.heap.size) ((((hP.widen hk0 (H := fun k => wu.heap.size ≤ k ∧ k < wv.heap.size) (by intro k h; exact ⟨.inl h.1, h.2⟩)).keep (hk5.step hx6 (by intros; (try simp only [] at *); omega))).ext hxb (fun k hk => ⟨by (try simp only [] at *); omega, fun hg => hg.elim (fun h => by have := h6 k h; (try simp only [] at *); omega) (fun h => by (try simp only [] at *); omega)⟩)).keep hk7) Tryd.underlying51 EP rfl rfl hs7 hlc (fun k a b => .inr ⟨a, b⟩) (((hsb.keep (hk5.step hx6 (by intros; (try simp only [] at *); omega))).ext hxb (by intros; (try simp only []); omega)).keep hk7) (by (try simp only []); omega)) ?_
      rintro v8 w8 ⟨hP8, hx8⟩
      have hx8' := hx8.size
      refine X.opE X.wN rfl (X.storeE Tryd.sizeOf51 ((((h3.keep ((hk0.trans hk5).step hx6 (by intros; (try simp only [] at *); omega))).ext hxb (by intros; (try simp only []); omega)).keep hk7).ext hx8 (by intros; (try simp only []); omega)) rfl rfl rfl (PR.one hP8)) ?_
      rintro _ w9 ⟨hB9, hx9, hz9⟩
      refine X.opsEnd ?_
      refine X.region ?_
      refine X.opw X.wN rfl (X.load1B Tryd.isAgg3 (((((h4.keep ((hk0.trans hk5).step hx6 (by intros; (try simp only [] at *); omega))).ext hxb (by intros; (try simp only []); omega)).keep hk7).ext hx8 (by intros; (try simp only []); omega)).ext hx9 (by intros; (try simp only []); omega)) rfl rfl) ?_
      refine X.opw X.wN rfl (X.move (v := .int .i64 _) rfl) ?_
      refine X.opw X.wN rfl (X.add (c := ((at_ + m : Nat) : Int)) rfl rfl (by rw [hm1, X.w_i64 (by omega)]; omega)) ?_
      refine X.opE X.wN rfl (X.storeE Tryd.sizeOf3 (((((h4.keep ((hk0.trans hk5).step hx6 (by intros; (try simp only [] at *); omega))).ext hxb (by intros; (try simp only []); omega)).keep hk7).ext hx8 (by intros; (try simp only []); omega)).ext hx9 (by intros; (try simp only []); omega)) rfl rfl rfl rfl) ?_
      rintro _ w10 ⟨hB10, hx10, hz10⟩
      refine X.opsEnd ?_
      refine X.inBlock ?_
      refine X.endRound' (r := rec) ((hx10.keep _ (by omega) (by (try simp only []); omega)).trans ((hx9.keep _ (by omega) (by (try simp only []); omega)).trans ((hx8.keep _ (by omega) (by (try simp only []); omega)).trans ((hk7.keep _ (by omega) id).trans hLb)))) hr1 hr2 (fun we hLe hxe hze => ?_)
      have e1 : at_ + m ≤ l.length := by rw [hl]; omega
      refine ⟨rfl, ⟨at_ + m, _, _, _, by rw [hm1, Int.toNat_natCast, List.drop_drop], behind_next hbh hcode hm1, (hB9.ext hx10 (by intros; (try simp only []); omega)).ext hxe (by (try simp only []); omega), hB10.ext hxe (by (try simp only []); omega), ((hP8.ext hx9 (fun k hk => ⟨by (try simp only [] at *); omega, fun hg => hg.elim (fun h => by have := h6 k h; (try simp only [] at *); omega) (fun h => by (try simp only [] at *); omega)⟩)).ext hx10 (fun k hk => ⟨by (try simp only [] at *); omega, fun hg => hg.elim (fun h => by have := h6 k h; (try simp only [] at *); omega) (fun h => by (try simp only [] at *); omega)⟩)).ext hxe (fun k hk => ⟨by omega, fun hg => hg.elim (fun h => by have := h6 k h; omega) (fun h => by omega)⟩), fun k hk => hk.elim (h6 k) (fun h => by omega), hLe, (hxe.keep _ (by omega) (by (try simp only []); omega)).trans ((hx10.keep _ (by omega) (by (try simp only []); omega)).trans ((hx9.keep _ (by omega) (by (try simp only []); omega)).trans ((hx8.keep _ (by omega) (by (try simp only []); omega)).trans ((hk7.keep _ (by omega) id).trans ((hxb.keep _ (by omega) (by (try simp only []); omega)).trans ((hx6.keep _ (by omega) (by (try simp only []); omega)).trans ((hk5.keep _ (by omega) id).trans ((hk0.keep _ (by omega) id).trans h8)))))))), (((((((((h9.trans hk0).trans hk5).step hx6 (by intros; (try simp only [] at *); omega)).step hxb (by intros; (try simp only [] at *); omega)).trans hk7).step hx8 (by intros; (try simp only [] at *); omega)).step hx9 (by intros; (try simp only [] at *); omega)).step hx10 (by intros; (try simp only [] at *); omega))).step hxe (by intros; (try simp only [] at *); omega)⟩, (Ext.andThen (Ext.andThen (Ext.andThen (Ext.andThen (Ext.andThen (Ext.andThen (Ext.andThen (Ext.andThen (Ext.refl (fun k => hi ≤ k ∧ k ≠ w3.heap.size ∧ k ≠ 0) _) hk5 (by intro k h1 h2; first | exact h2.elim | (simp only [] at *; omega) | omega)) hx6 (by intro k h1 h2; first | exact h2.elim | (simp only [] at *; omega) | omega)) hxb (by intro k h1 h2; first | exact h2.elim | (simp only [] at *; omega) | omega)) hk7 (by intro k h1 h2; first | exact h2.elim | (simp only [] at *; omega) | omega)) hx8 (by intro k h1 h2; first | exact h2.elim | (simp only [] at *; omega) | omega)) hx9 (by intro k h1 h2; first | exact h2.elim | (simp only [] at *; omega) | omega)) hx10 (by intro k h1 h2; first | exact h2.elim | (simp only [] at *; omega) | omega)) hxe (by intro k h1 h2; first | exact h2.elim | (simp only [] at *; omega) | omega))⟩
    · rintro v wz ⟨_, l1, hc, at_, v, ps, G, rfl, h2, h3, h4, h5, h6, h7, h8, h9⟩
      exact ⟨⟨rec, h7, by rw [hr1]; simp, hr2⟩, at_, v, ps, G, hc, h2, h3, h4, h5, h6, h8, h9⟩
  · rintro wz we ⟨at_, v, ps, G, hcode, hbh, h3, h4, hP, h6, h8, h9⟩ hxe hze
    have h9' := h9.size
    obtain ⟨hdf, _⟩ := Array.getElem?_eq_some_iff.1 h8
    obtain ⟨hb1, hb2, hb3⟩ := id hbh
    refine X.inBlock ?_
    refine X.seq ?_
    refine X.regionD (fun _ => False) 3 (by kernel_rfl) (by kernel_rfl) (fun w11 hk11 hz11 => ?_)
    refine X.dTake 0 rfl (by kernel_rfl) (by kernel_rfl) (by kernel_rfl) (X.dwN rfl) (fun w' hk' => X.load1B Tryd.isAgg51 ((h3.ext hxe (by intros; (try simp only []); omega)).keep (hk11.trans hk')) rfl rfl) ?_
    refine X.dTake 1 rfl (by kernel_rfl) (by kernel_rfl) (by kernel_rfl) (X.dwN rfl) (fun w' hk' => X.load1B Tryd.isAgg3 ((h4.ext hxe (by intros; (try simp only []); omega)).keep (hk11.trans hk')) rfl rfl) ?_
    refine X.dTake 2 rfl (by kernel_rfl) (by kernel_rfl) (by kernel_rfl) (X.dwN rfl) (fun w' hk' => X.assign rfl) ?_
    refine X.dStep (i := 3) (by kernel_rfl) rfl (X.dwN rfl) (X.assign (v := .int .i64 _) rfl) (fun h => absurd h (by decide)) ?_
    refine X.dEnd (by kernel_rfl) ?_
    refine X.ret_unw ?_
    refine X.collected' (by simp) ((hk11.keep _ (by omega) id).trans ((hxe.keep _ (by omega) (by (try simp only []); omega)).trans h8)) (fun wf hxf hzf => ?_)
    refine X.unwT2 Tryd.func28 Tryd.results28 rfl rfl ?_
    rw [behind_end hbh hcode]
    exact ⟨_, _, _, rfl, (((hP.ext hxe (fun k hk => ⟨by (try simp only [] at *); omega, fun hg => by have := h6 k hg; (try simp only [] at *); omega⟩)).keep hk11).ext hxf (fun k hk => ⟨by (try simp only [] at *); omega, fun hg => by have := h6 k hg; (try simp only [] at *); omega⟩)), by omega, (((h9.step hxe (by intros; (try simp only [] at *); omega)).trans hk11)).step hxf (by intros; (try simp only [] at *); omega)⟩
end Go.Proofs.YtleaidgngkfjbaaDoor
