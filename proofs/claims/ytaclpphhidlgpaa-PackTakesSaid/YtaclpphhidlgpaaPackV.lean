/- Counted tuples taken. -/
import Derived.Test.YtaclpphhidlgpaaPackS
namespace Go.Proofs.Ytaclpphhidlgpaa
open Go Go.Proofs.Ytaclpphhidlgpaa.X
set_option linter.unusedVariables false
set_option linter.unusedSimpArgs false
-- f62 "pedigree/pack.TakeCounted$1" params [81] results [42] -> [(ResultVar.cell 2 42)] nfree 0 ntmps 10 name
set_option maxHeartbeats 4000000 in
set_option maxRecDepth 100000 in
theorem takeCnt1_c (hi rb T : Nat) (xs : List UInt8) (w : World) (hr : Rd w hi rb T xs) : PP 62 #[.pointer (some ⟨rb, 0, none⟩)] w hi rb T (pCnt xs) (fun a v w' => ∃ u, v = .agg #[u, .int .i64 a.2] ∧ Mine KV 75 (fun k => w.heap.size ≤ k) 0 0 w' u a.1 ∧ (∀ z ∈ a.1, okV z) ∧ a.1.length ≤ 8 ∧ okI a.2) := by
  have hrl := hr.lt
  refine X.enter Try.func62 rfl Try.ntmps62 rfl ?_
  refine X.seq ?_
  refine X.region ?_
  refine X.opE X.wN rfl (X.allocE Try.zeroValue42 rfl) ?_
  rintro _ w1 ⟨rfl, hB1, hk1, hz1⟩
  refine X.opsEnd ?_
  refine X.seq ?_
  refine X.region ?_
  refine X.opw X.wN rfl (X.move rfl) ?_
  refine X.opPR (tuple_c hi rb T _ _ (hr.keep hk1)) X.wN rfl Try.call59 rfl (fun b2 hb2 => ?_) (fun hb2 => ?_)
  · rintro v2 w2 ⟨⟨hM2, ho2, hn2⟩, hR2, hx2⟩
    have hx2' := hx2.size
    obtain ⟨a2, ys2⟩ := b2
    simp only at hR2 hn2
    simp only at hM2 ho2
    refine X.opw X.wN rfl (X.assign rfl) ?_
    refine X.opsEnd ?_
    refine X.seq ?_
    refine X.region ?_
    refine X.opw X.wN rfl (X.move rfl) ?_
    refine X.opw X.wN rfl (X.move rfl) ?_
    refine X.opPR (whole_c hi rb T _ _ hR2) X.wN rfl Try.call54 rfl (fun b3 hb3 => ?_) (fun hb3 => ?_)
    · rintro _ w3 ⟨⟨rfl, hn3⟩, hR3, hx3⟩
      have hx3' := hx3.size
      obtain ⟨a3, ys3⟩ := b3
      simp only at hR3 hn3
      have q3 := (hM2.ext hx3 (by intros; (try simp only []); omega) (by intros; (try simp only []); omega))
      have q3' := q3.slice
      obtain ⟨Az, cz, rfl, hcz, hlz⟩ := q3'
      refine X.opw X.wN rfl (X.buildB (vs := [(0, .slice Az a2.length cz), (1, .int .i64 a3)]) (cs := #[.slice Az a2.length cz, .int .i64 a3]) rfl (by kernel_rfl)) ?_
      refine X.opE X.wN rfl (X.storeNE Try.sizeOf42 ((hB1.ext hx2 (by intros; (try simp only []); omega)).ext hx3 (by intros; (try simp only []); omega)) rfl rfl rfl rfl (fun u hu => by simp at hu; rcases hu with rfl | rfl <;> rfl)) ?_
      rintro _ w4 ⟨hB4, hx4, hz4⟩
      refine X.opsEnd ?_
      refine X.ret_unw (X.unwR1 Try.func62 Try.results62 (X.ResOk.cell rfl (X.lvN Try.isAgg42 Try.sizeOf42 hB4 rfl)) ?_)
      rw [pCnt, hb2]
      dsimp only
      rw [hb3]
      exact ⟨_, rfl, ⟨_, rfl, Mine.mono (T := fun k => w.heap.size ≤ k) ((hM2.ext hx3 (by intros; (try simp only []); omega) (by intros; (try simp only []); omega)).ext hx4 (by intros; (try simp only []); omega) (by intros; (try simp only []); omega)) (fun k h1 h2 => by (try simp only [] at *); omega), ho2, hn2, hn3⟩, (hR3.ext hx4 (by intros; (try simp only []); omega)), (Ext.andThen (Ext.andThen (Ext.andThen (Ext.andThen (Ext.refl (fun k => k = rb) _) hk1 (by intro k h1 h2; first | exact h2.elim | omega | (simp only [] at *; omega))) hx2 (by intro k h1 h2; first | exact h2.elim | omega | (simp only [] at *; omega))) hx3 (by intro k h1 h2; first | exact h2.elim | omega | (simp only [] at *; omega))) hx4 (by intro k h1 h2; first | exact h2.elim | omega | (simp only [] at *; omega)))⟩
    · rintro w3 hx3
      have hx3' := hx3.size
      refine X.unw_pan Try.func62 ?_
      first
      | (rw [pCnt, hb2]; exact ⟨rfl, (Ext.andThen (Ext.andThen (Ext.andThen (Ext.refl (fun k => k = rb) _) hk1 (by intro k h1 h2; first | exact h2.elim | omega | (simp only [] at *; omega))) hx2 (by intro k h1 h2; first | exact h2.elim | omega | (simp only [] at *; omega))) hx3 (by intro k h1 h2; first | exact h2.elim | omega | (simp only [] at *; omega)))⟩)
      | (rw [pCnt, hb2]; dsimp only; rw [hb3]; exact ⟨rfl, (Ext.andThen (Ext.andThen (Ext.andThen (Ext.refl (fun k => k = rb) _) hk1 (by intro k h1 h2; first | exact h2.elim | omega | (simp only [] at *; omega))) hx2 (by intro k h1 h2; first | exact h2.elim | omega | (simp only [] at *; omega))) hx3 (by intro k h1 h2; first | exact h2.elim | omega | (simp only [] at *; omega)))⟩)
  · rintro w2 hx2
    have hx2' := hx2.size
    refine X.unw_pan Try.func62 ?_
    first
    | (rw [pCnt, hb2]; exact ⟨rfl, (Ext.andThen (Ext.andThen (Ext.refl (fun k => k = rb) _) hk1 (by intro k h1 h2; first | exact h2.elim | omega | (simp only [] at *; omega))) hx2 (by intro k h1 h2; first | exact h2.elim | omega | (simp only [] at *; omega)))⟩)
    | (rw [pCnt, hb2]; dsimp only; rw [hb3]; exact ⟨rfl, (Ext.andThen (Ext.andThen (Ext.refl (fun k => k = rb) _) hk1 (by intro k h1 h2; first | exact h2.elim | omega | (simp only [] at *; omega))) hx2 (by intro k h1 h2; first | exact h2.elim | omega | (simp only [] at *; omega)))⟩)
-- f76 "pedigree/pack.take[pedigree/api.Counted]$1" params [] results [] -> [] nfree 3 ntmps 7 names ["", "", 
set_option maxHeartbeats 4000000 in
set_option maxRecDepth 100000 in
theorem zero0_cnt (be bx bn : Nat) (w : World) (hE : Blk w be [.int .i64 0] 26) : Ret Try.prog 76 #[.pointer (some ⟨be, 0, none⟩), .pointer (some ⟨bx, 0, none⟩), .pointer (some ⟨bn, 0, none⟩)] w fun _ w' => w' = w := by
  refine X.enter Try.func76 rfl Try.ntmps76 rfl ?_
  refine X.seq ?_
  refine X.region ?_
  refine X.opw X.wN rfl (X.load1B Try.isAgg26 hE rfl rfl) ?_
  refine X.opP X.wN rfl rfl (X.neI rfl rfl) (fun h5 => ?_) (fun h5 => ?_)
  · exact absurd rfl h5
  · refine X.opsEnd ?_
    refine X.condF rfl ?_
    refine X.skip ?_
    refine X.end0 Try.func76 Try.results76 ?_
    rfl
-- f76 "pedigree/pack.take[pedigree/api.Counted]$1" params [] results [] -> [] nfree 3 ntmps 7 names ["", "", 
set_option maxHeartbeats 4000000 in
set_option maxRecDepth 100000 in
theorem zero1_cnt (be bx bn : Nat) (vs : List Value) (k : Value) (w : World) (hE : Blk w be [.int .i64 30] 26) (hX : Blk w bx vs 42) (hvl : vs.length = 2) (hN : Blk w bn [k] 3) (h1 : bx ≠ be) (h2 : bn ≠ be) (h3 : bn ≠ bx) : Ret Try.prog 76 #[.pointer (some ⟨be, 0, none⟩), .pointer (some ⟨bx, 0, none⟩), .pointer (some ⟨bn, 0, none⟩)] w
    fun _ w' => Blk w' be [.int .i64 30] 26 ∧ Blk w' bx [.slice none 0 0, .int .i64 0] 42 ∧ Blk w' bn [.int .i64 0] 3 ∧ Ext (fun k => k = bx ∨ k = bn) w w' := by
  have hlx := hX.lt
  have hle := hE.lt
  have hln := hN.lt
  refine X.enter Try.func76 rfl Try.ntmps76 rfl ?_
  refine X.seq ?_
  refine X.region ?_
  refine X.opw X.wN rfl (X.load1B Try.isAgg26 hE rfl rfl) ?_
  refine X.opP X.wN rfl rfl (X.neI rfl rfl) (fun h5 => ?_) (fun h5 => ?_)
  · refine X.opsEnd ?_
    refine X.condT rfl ?_
    refine X.seq ?_
    refine X.region ?_
    refine X.opE X.wN rfl (X.allocE Try.zeroValue42 rfl) ?_
    rintro _ w1 ⟨rfl, hB1, hk1, hz1⟩
    refine X.opsEnd ?_
    refine X.region ?_
    refine X.opw X.wN rfl (X.loadNB Try.isAgg42 Try.sizeOf42 hB1 rfl rfl rfl) ?_
    refine X.opE X.wN rfl (X.storeNE Try.sizeOf42 (hX.keep hk1) rfl rfl rfl hvl (fun u hu => by simp at hu; rcases hu with rfl | rfl <;> rfl)) ?_
    rintro _ w2 ⟨hB2, hx2, hz2⟩
    refine X.opE X.wN rfl (X.storeE Try.sizeOf3 ((hN.keep hk1).ext hx2 (by intros; (try simp only []); omega)) rfl rfl rfl rfl) ?_
    rintro _ w3 ⟨hB3, hx3, hz3⟩
    refine X.opsEnd ?_
    refine X.end0 Try.func76 Try.results76 ?_
    exact ⟨(((hE.keep hk1).ext hx2 (by intros; (try simp only []); omega)).ext hx3 (by intros; (try simp only []); omega)), (hB2.ext hx3 (by intros; (try simp only []); omega)), hB3, (Ext.andThen (Ext.andThen (Ext.andThen (Ext.refl (fun k => k = bx ∨ k = bn) _) hk1 (by intro k h1 h2; first | exact h2.elim | omega | (simp only [] at *; omega))) hx2 (by intro k h1 h2; first | exact h2.elim | omega | (simp only [] at *; omega))) hx3 (by intro k h1 h2; first | exact h2.elim | omega | (simp only [] at *; omega)))⟩
  · exact absurd (by decide) h5
-- f61 "pedigree/pack.take[pedigree/api.Counted]" params [25, 105] results [42, 3, 26] -> [(ResultVar.cell 4 4
set_option maxHeartbeats 4000000 in
set_option maxRecDepth 100000 in
theorem take_cnt {α : Type} (p : List UInt8 → Option (α × List UInt8)) (V : World → α → Value → World → Prop) (G : Nat) (cap : List Value) (hG : ∀ args w, (callFunc G args).run Try.prog w = .ok (.enter G args) w) (xs : List UInt8) (A : Option Addr) (n c : Nat) (w : World) (hs : Sl KB 0 w.heap.size w A n xs) (hnc : n ≤ c) (hn : n ≤ 1000000)
    (hV1 : ∀ wb a v w1, V wb a v w1 → ∃ vs : List Value, v = .agg vs.toArray ∧ vs.length = 2 ∧ ∀ u, u ∈ vs → u.oneCell' = true) (hV2 : ∀ wb a v w1 w2 U, V wb a v w1 → Ext U w1 w2 → (∀ k, U k → k < wb.heap.size) → V wb a v w2)
    (hP : ∀ w' rb, Keep w w' → Rd w' rb rb n xs → PP G ([Value.pointer (some ⟨rb, 0, none⟩)] ++ cap).toArray w' rb rb n (p xs) (V w')) :
    Ret Try.prog 61 #[.slice A n c, .func (.func G) #[] cap.toArray] w fun r w' => (match p xs with
      | some (a, ys) => ∃ v wb, r = .tuple #[v, .int .i64 ((n : Int) - (ys.length : Int)), .int .i64 0] ∧ V wb a v w' ∧ Keep w wb ∧ wb.heap.size ≤ w'.heap.size
      | none => r = .tuple #[.agg #[.slice none 0 0, .int .i64 0], .int .i64 0, .int .i64 30]) ∧ Keep w w' := by
  have hl := hs.len
  refine X.enter Try.func61 rfl Try.ntmps61 rfl ?_
  refine X.seq ?_
  refine X.region ?_
  refine X.opE X.wN rfl (X.allocE Try.zeroValue42 rfl) ?_
  rintro _ w1 ⟨rfl, hB1, hk1, hz1⟩
  refine X.opE X.wN rfl (X.allocE Try.zeroValue3 rfl) ?_
  rintro _ w2 ⟨rfl, hB2, hk2, hz2⟩
  refine X.opE X.wN rfl (X.allocE Try.zeroValue26 rfl) ?_
  rintro _ w3 ⟨rfl, hB3, hk3, hz3⟩
  refine X.opsEnd ?_
  refine X.seq ?_
  refine X.region ?_
  refine X.opw X.wN rfl (X.mkFunc rfl) ?_
  refine X.opDefer X.wN rfl rfl ?_
  refine X.opsEnd ?_
  refine X.seq ?_
  refine X.region ?_
  refine X.opDefer X.wN rfl rfl ?_
  refine X.opsEnd ?_
  refine X.seq ?_
  refine X.region ?_
  refine X.opw X.wN rfl (X.move (v := .slice _ _ _) rfl) ?_
  refine X.opE X.wN rfl (X.callE (over_c _ ((hs.keep ((hk1.trans hk2).trans hk3)).wide (Nat.le_refl _) (by omega)) hnc hn) Try.call68 rfl rfl) ?_
  rintro _ w4 ⟨rfl, hR4, hk4, hz4⟩
  refine X.opw X.wN rfl (X.assign rfl) ?_
  refine X.opsEnd ?_
  refine X.seq ?_
  refine X.region ?_
  refine X.opw X.wN rfl (X.move rfl) ?_
  refine X.opw X.wN rfl (X.move rfl) ?_
  refine X.opPRV (vs := [_]) rfl (hP _ _ (((hk1.trans hk2).trans hk3).trans hk4) hR4) X.wN rfl hG rfl (fun b5 hb5 => ?_) (fun hb5 => ?_)
  · rintro v5 w5 ⟨hv5, hR5, hx5⟩
    have hx5' := hx5.size
    obtain ⟨Ar, cr, hr1, hB5, hr2, hr3, hr4, hr5⟩ := hR5
    have hvz := hV1 _ _ _ _ hv5
    obtain ⟨vs, rfl, hvl, hvo⟩ := hvz
    refine X.opE X.wN rfl (X.storeNE Try.sizeOf42 ((hB1.keep ((hk2.trans hk3).trans hk4)).ext hx5 (by intros; (try simp only []); omega)) rfl rfl hvl rfl hvo) ?_
    rintro _ w6 ⟨hB6, hx6, hz6⟩
    refine X.opsEnd ?_
    refine X.seq ?_
    refine X.regionD (fun k => k = w.heap.size) 6 (by kernel_rfl) (by kernel_rfl) (fun w7 hk7 hz7 => ?_)
    refine X.dTake 1 rfl (by kernel_rfl) (by kernel_rfl) (by kernel_rfl) (X.dwN rfl) (fun w' hk' => X.move rfl) ?_
    refine X.dTake 2 rfl (by kernel_rfl) (by kernel_rfl) (by kernel_rfl) (X.dwN rfl) (fun w' hk' => X.nilCk rfl) ?_
    refine X.dTake 3 rfl (by kernel_rfl) (by kernel_rfl) (by kernel_rfl) (X.dwN rfl) (fun w' hk' => X.fldB (j := 1) Try.underlying85 rfl rfl Try.sizeOf3 rfl) ?_
    refine X.dTake 4 rfl (by kernel_rfl) (by kernel_rfl) (by kernel_rfl) (X.dwN rfl) (fun w' hk' => X.load1B Try.isAgg3 (((hB5.ext hx6 (by intros; (try simp only []); omega)).keep hk7).ext hk' (by intros; (try simp only []); omega)) rfl rfl) ?_
    refine X.dStep (i := 0) (by kernel_rfl) rfl (X.dwN rfl) (X.loadNB (vs := vs) Try.isAgg42 Try.sizeOf42 (hB6.keep hk7) rfl (by rw [List.drop_zero, List.take_of_length_le (by omega)]) hvl) (fun _ => Ext.refl _ _) ?_
    refine X.dE (i := 5) (by kernel_rfl) rfl (X.dwN rfl) (X.storeNE Try.sizeOf42 (hB6.keep hk7) rfl rfl hvl hvl hvo) (by rintro _ w8 ⟨hB8, hx8, hz8⟩ _; exact hx8) ?_
    rintro _ w8 ⟨hB8, hx8, hz8⟩
    refine X.dE (i := 6) (by kernel_rfl) rfl (X.dwN rfl) (X.storeE Try.sizeOf3 (((((hB2.keep (hk3.trans hk4)).ext hx5 (by intros; (try simp only []); omega)).ext hx6 (by intros; (try simp only []); omega)).keep hk7).ext hx8 (by intros; (try simp only []); omega)) rfl rfl rfl rfl) (fun _ _ _ h => absurd h (by decide)) ?_
    rintro _ w9 ⟨hB9, hx9, hz9⟩
    refine X.dE (i := 7) (by kernel_rfl) rfl (X.dwN rfl) (X.storeE Try.sizeOf26 ((((((hB3.keep hk4).ext hx5 (by intros; (try simp only []); omega)).ext hx6 (by intros; (try simp only []); omega)).keep hk7).ext hx8 (by intros; (try simp only []); omega)).ext hx9 (by intros; (try simp only []); omega)) rfl rfl rfl rfl) (fun _ _ _ h => absurd h (by decide)) ?_
    rintro _ w10 ⟨hB10, hx10, hz10⟩
    refine X.dEnd (by kernel_rfl) ?_
    refine X.ret_unw ?_
    refine X.unw_defer Try.call67 (fun h => by cases h) (caught_0 _ _) ?_
    rintro m wz ⟨rfl, rfl⟩
    show X.Unw _ _ _ FrameMode.returning _ _ _ _
    refine X.unw_defer Try.call76 (fun h => by cases h) (X.DCall.of_ret (zero0_cnt _ _ _ _ hB10)) ?_
    rintro m wz ⟨rfl, vz, rfl⟩
    show X.Unw _ _ _ FrameMode.returning _ _ _ _
    refine X.unwR3 Try.func61 Try.results61 (X.ResOk.cell rfl (X.lvN Try.isAgg42 Try.sizeOf42 ((hB8.ext hx9 (by intros; (try simp only []); omega)).ext hx10 (by intros; (try simp only []); omega)) hvl)) (X.ResOk.cell rfl (X.lv1 Try.isAgg3 (hB9.ext hx10 (by intros; (try simp only []); omega)) rfl)) (X.ResOk.cell rfl (X.lv1 Try.isAgg26 hB10 rfl)) ?_
    refine ⟨?_, (((((((((hk1.trans hk2).trans hk3).trans hk4).step hx5 (by intros; (try simp only [] at *); omega)).step hx6 (by intros; (try simp only [] at *); omega)).trans hk7).step hx8 (by intros; (try simp only [] at *); omega)).step hx9 (by intros; (try simp only [] at *); omega)).step hx10 (by intros; (try simp only [] at *); omega))⟩
    rw [hb5]
    obtain ⟨a5, ys5⟩ := b5
    exact ⟨_, w4, rfl, hV2 _ _ _ _ _ _ (hV2 _ _ _ _ _ _ (hV2 _ _ _ _ _ _ (hV2 _ _ _ _ _ _ (hV2 _ _ _ _ _ _ hv5 hx6 (by intro k h; first | exact h.elim | ((try simp only [] at h); omega))) hk7 (by intro k h; first | exact h.elim | ((try simp only [] at h); omega))) hx8 (by intro k h; first | exact h.elim | ((try simp only [] at h); omega))) hx9 (by intro k h; first | exact h.elim | ((try simp only [] at h); omega))) hx10 (by intro k h; first | exact h.elim | ((try simp only [] at h); omega)), (((hk1.trans hk2).trans hk3).trans hk4), by omega⟩
  · rintro w5 hx5
    have hx5' := hx5.size
    refine X.unw_defer Try.call67 (fun h => by cases h) (caught_1 _ _ _ ((hB3.keep hk4).ext hx5 (by intros; (try simp only []); omega))) ?_
    rintro m wz ⟨rfl, hBz, hxz⟩
    have hxz' := hxz.size
    show X.Unw _ _ _ FrameMode.returning _ _ _ _
    refine X.unw_defer Try.call76 (fun h => by cases h) (X.DCall.of_ret (zero1_cnt _ _ _ _ _ _ hBz (((hB1.keep ((hk2.trans hk3).trans hk4)).ext hx5 (by intros; (try simp only []); omega)).ext hxz (by intros; (try simp only []); omega)) rfl (((hB2.keep (hk3.trans hk4)).ext hx5 (by intros; (try simp only []); omega)).ext hxz (by intros; (try simp only []); omega)) (by omega) (by omega) (by omega))) ?_
    rintro m wq ⟨rfl, vq, hq1, hq2, hq3, hq4⟩
    show X.Unw _ _ _ FrameMode.returning _ _ _ _
    refine X.unwR3 Try.func61 Try.results61 (X.ResOk.cell rfl (X.lvN Try.isAgg42 Try.sizeOf42 hq2 rfl)) (X.ResOk.cell rfl (X.lv1 Try.isAgg3 hq3 rfl)) (X.ResOk.cell rfl (X.lv1 Try.isAgg26 hq1 rfl)) ?_
    refine ⟨?_, ((((((hk1.trans hk2).trans hk3).trans hk4).step hx5 (by intros; (try simp only [] at *); omega)).step hxz (by intros; (try simp only [] at *); omega)).step hq4 (by intros; (try simp only [] at *); omega))⟩
    rw [hb5]
end Go.Proofs.Ytaclpphhidlgpaa
