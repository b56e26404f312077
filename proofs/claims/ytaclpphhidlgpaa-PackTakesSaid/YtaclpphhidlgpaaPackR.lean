/- Readings that end in a fault are caught: what take tells. -/
import Derived.Test.YtaclpphhidlgpaaPackQ
namespace Go.Proofs.Ytaclpphhidlgpaa
open Go Go.Proofs.Ytaclpphhidlgpaa.X
set_option linter.unusedVariables false
set_option linter.unusedSimpArgs false
-- f67 "pedigree/pack.caught" params [109] results [] -> [] nfree 0 ntmps 13 names ["e", "e", "x", "x", "x", "
set_option maxHeartbeats 4000000 in
set_option maxRecDepth 100000 in
theorem caught_0 (be : Nat) (w : World) : DCall Try.prog 67 #[.pointer (some ⟨be, 0, none⟩)] w .returning fun m w' => m = .returning ∧ w' = w := by
  refine X.DCall.rec (mode' := .returning) (v := .nilIface) Try.func67 rfl Try.ntmps67 rfl rfl rfl ?_
  refine X.block ?_
  refine X.seq ?_
  refine X.region ?_
  refine X.opw X.wN rfl (X.eqIf0 Try.underlying20 rfl rfl) ?_
  refine X.opsEnd ?_
  refine X.condT rfl ?_
  refine X.seq ?_
  refine X.region ?_
  refine X.opw X.wN rfl (X.assign rfl) ?_
  refine X.opsEnd ?_
  refine X.ret0 Try.func67 Try.results67 ?_
  exact ⟨rfl, rfl⟩
-- f67 "pedigree/pack.caught" params [109] results [] -> [] nfree 0 ntmps 13 names ["e", "e", "x", "x", "x", "
set_option maxHeartbeats 4000000 in
set_option maxRecDepth 100000 in
theorem caught_1 (be : Nat) (x : Value) (w : World) (hB : Blk w be [x] 26) : DCall Try.prog 67 #[.pointer (some ⟨be, 0, none⟩)] w (.panicking [{ v := FAULT, recovered := false }]) fun m w' => m = .panicking [{ v := FAULT, recovered := true }] ∧ Blk w' be [.int .i64 30] 26 ∧ Ext (fun k => k = be) w w' := by
  have hlt := hB.lt
  refine X.DCall.rec (mode' := .panicking [{ v := FAULT, recovered := true }]) (v := FAULT) Try.func67 rfl Try.ntmps67 rfl rfl rfl ?_
  refine X.block ?_
  refine X.seq ?_
  refine X.region ?_
  refine X.opw X.wN rfl (X.eqIf1 Try.underlying20 rfl rfl) ?_
  refine X.opsEnd ?_
  refine X.condF rfl ?_
  refine X.seq ?_
  refine X.region ?_
  refine X.opw X.wN rfl (X.tAssert Try.underlying88 rfl rfl) ?_
  refine X.opw X.wN rfl (X.extr (v := .bool true) rfl rfl) ?_
  refine X.opw X.wN rfl (X.extr rfl rfl) ?_
  refine X.opsEnd ?_
  refine X.condT rfl ?_
  refine X.seq ?_
  refine X.region ?_
  refine X.opE X.wN rfl (X.allocE Try.zeroValue88 rfl) ?_
  rintro _ w1 ⟨rfl, hB1, hk1, hz1⟩
  refine X.opE X.wN rfl (X.storeNE Try.sizeOf88 hB1 rfl rfl rfl rfl (fun _ h => by cases h)) ?_
  rintro _ w2 ⟨hB2, hx2, hz2⟩
  refine X.opsEnd ?_
  refine X.region ?_
  refine X.opw X.wN rfl (X.move rfl) ?_
  refine X.opw X.wN rfl (X.nilCk rfl) ?_
  refine X.opE X.wN rfl (X.storeE Try.sizeOf26 (hB.keep (hk1.step hx2 (by intros; (try simp only [] at *); omega))) rfl rfl rfl rfl) ?_
  rintro _ w3 ⟨hB3, hx3, hz3⟩
  refine X.opsEnd ?_
  refine X.inBlock ?_
  refine X.end0 Try.func67 Try.results67 ?_
  exact ⟨rfl, hB3, (Ext.andThen (Ext.andThen (Ext.andThen (Ext.refl (fun k => k = be) _) hk1 (by intro k h1 h2; first | exact h2.elim | omega | (simp only [] at *; omega))) hx2 (by intro k h1 h2; first | exact h2.elim | omega | (simp only [] at *; omega))) hx3 (by intro k h1 h2; first | exact h2.elim | omega | (simp only [] at *; omega)))⟩
-- f71 "pedigree/pack.take[uint64]$1" params [] results [] -> [] nfree 3 ntmps 7 names ["", "", "", "none", ""
set_option maxHeartbeats 4000000 in
set_option maxRecDepth 100000 in
theorem zero0_u64 (be bx bn : Nat) (w : World) (hE : Blk w be [.int .i64 0] 26) : Ret Try.prog 71 #[.pointer (some ⟨be, 0, none⟩), .pointer (some ⟨bx, 0, none⟩), .pointer (some ⟨bn, 0, none⟩)] w fun _ w' => w' = w := by
  refine X.enter Try.func71 rfl Try.ntmps71 rfl ?_
  refine X.seq ?_
  refine X.region ?_
  refine X.opw X.wN rfl (X.load1B Try.isAgg26 hE rfl rfl) ?_
  refine X.opP X.wN rfl rfl (X.neI rfl rfl) (fun h5 => ?_) (fun h5 => ?_)
  · exact absurd rfl h5
  · refine X.opsEnd ?_
    refine X.condF rfl ?_
    refine X.skip ?_
    refine X.end0 Try.func71 Try.results71 ?_
    rfl
-- f71 "pedigree/pack.take[uint64]$1" params [] results [] -> [] nfree 3 ntmps 7 names ["", "", "", "none", ""
set_option maxHeartbeats 4000000 in
set_option maxRecDepth 100000 in
theorem zero1_u64 (be bx bn : Nat) (x k : Value) (w : World) (hE : Blk w be [.int .i64 30] 26) (hX : Blk w bx [x] 33) (hN : Blk w bn [k] 3) (h1 : bx ≠ be) (h2 : bn ≠ be) (h3 : bn ≠ bx) : Ret Try.prog 71 #[.pointer (some ⟨be, 0, none⟩), .pointer (some ⟨bx, 0, none⟩), .pointer (some ⟨bn, 0, none⟩)] w
    fun _ w' => Blk w' be [.int .i64 30] 26 ∧ Blk w' bx [.int .u64 0] 33 ∧ Blk w' bn [.int .i64 0] 3 ∧ Ext (fun k => k = bx ∨ k = bn) w w' := by
  refine X.enter Try.func71 rfl Try.ntmps71 rfl ?_
  refine X.seq ?_
  refine X.region ?_
  refine X.opw X.wN rfl (X.load1B Try.isAgg26 hE rfl rfl) ?_
  refine X.opP X.wN rfl rfl (X.neI rfl rfl) (fun h5 => ?_) (fun h5 => ?_)
  · refine X.opsEnd ?_
    refine X.condT rfl ?_
    refine X.seq ?_
    refine X.region ?_
    refine X.opw X.wN rfl (X.assign rfl) ?_
    refine X.opsEnd ?_
    refine X.region ?_
    refine X.opw X.wN rfl (X.move (v := .int .u64 _) rfl) ?_
    refine X.opE X.wN rfl (X.storeE Try.sizeOf33 hX rfl rfl rfl rfl) ?_
    rintro _ w1 ⟨hB1, hx1, hz1⟩
    refine X.opE X.wN rfl (X.storeE Try.sizeOf3 (hN.ext hx1 (by intros; (try simp only []); omega)) rfl rfl rfl rfl) ?_
    rintro _ w2 ⟨hB2, hx2, hz2⟩
    refine X.opsEnd ?_
    refine X.end0 Try.func71 Try.results71 ?_
    exact ⟨((hE.ext hx1 (by intros; (try simp only []); omega)).ext hx2 (by intros; (try simp only []); omega)), (hB1.ext hx2 (by intros; (try simp only []); omega)), hB2, (Ext.andThen (Ext.andThen (Ext.refl (fun k => k = bx ∨ k = bn) _) hx1 (by intro k h1 h2; first | exact h2.elim | omega | (simp only [] at *; omega))) hx2 (by intro k h1 h2; first | exact h2.elim | omega | (simp only [] at *; omega)))⟩
  · exact absurd (by decide) h5
-- f49 "pedigree/pack.take[uint64]" params [25, 94] results [33, 3, 26] -> [(ResultVar.cell 4 33), (ResultVar.
set_option maxHeartbeats 4000000 in
set_option maxRecDepth 100000 in
theorem take_u64 {α : Type} (p : List UInt8 → Option (α × List UInt8)) (V : World → α → Value → World → Prop) (G : Nat) (cap : List Value) (hG : ∀ args w, (callFunc G args).run Try.prog w = .ok (.enter G args) w) (xs : List UInt8) (A : Option Addr) (n c : Nat) (w : World) (hs : Sl KB 0 w.heap.size w A n xs) (hnc : n ≤ c) (hn : n ≤ 1000000)
    (hV1 : ∀ wb a v w1, V wb a v w1 → v.oneCell' = true) (hV2 : ∀ wb a v w1 w2 U, V wb a v w1 → Ext U w1 w2 → (∀ k, U k → k < wb.heap.size) → V wb a v w2)
    (hP : ∀ w' rb, Keep w w' → Rd w' rb rb n xs → PP G ([Value.pointer (some ⟨rb, 0, none⟩)] ++ cap).toArray w' rb rb n (p xs) (V w')) :
    Ret Try.prog 49 #[.slice A n c, .func (.func G) #[] cap.toArray] w fun r w' => (match p xs with
      | some (a, ys) => ∃ v wb, r = .tuple #[v, .int .i64 ((n : Int) - (ys.length : Int)), .int .i64 0] ∧ V wb a v w' ∧ Keep w wb ∧ wb.heap.size ≤ w'.heap.size
      | none => r = .tuple #[.int .u64 0, .int .i64 0, .int .i64 30]) ∧ Keep w w' := by
  have hl := hs.len
  refine X.enter Try.func49 rfl Try.ntmps49 rfl ?_
  refine X.seq ?_
  refine X.region ?_
  refine X.opE X.wN rfl (X.allocE Try.zeroValue33 rfl) ?_
  rintro _ w1 ⟨rfl, hB1, hk1, hz1⟩
  refine X.opE X.wN rfl (X.allocE Try.zeroValue3 rfl) ?_
  rintro _ w2 ⟨rfl, hB2, hk2, hz2⟩
  refine X.opE X.wN rfl (X.allocE Try.zeroValue26 rfl) ?_
  rintro _ w3 ⟨rfl, hB3, hk3, hz3⟩
  refine X.opsEnd ?_
  refine X.seq ?_
  refine X.region ?_
  refine X.opw X.wN rfl (X.mkFunc rfl) ?_
  refine X.opDefer X.wN rfl rfl ?_
  refine X.opsEnd ?_
  refine X.seq ?_
  refine X.region ?_
  refine X.opDefer X.wN rfl rfl ?_
  refine X.opsEnd ?_
  refine X.seq ?_
  refine X.region ?_
  refine X.opw X.wN rfl (X.move (v := .slice _ _ _) rfl) ?_
  refine X.opE X.wN rfl (X.callE (over_c _ ((hs.keep ((hk1.trans hk2).trans hk3)).wide (Nat.le_refl _) (by omega)) hnc hn) Try.call68 rfl rfl) ?_
  rintro _ w4 ⟨rfl, hR4, hk4, hz4⟩
  refine X.opw X.wN rfl (X.assign rfl) ?_
  refine X.opsEnd ?_
  refine X.seq ?_
  refine X.region ?_
  refine X.opw X.wN rfl (X.move rfl) ?_
  refine X.opw X.wN rfl (X.move rfl) ?_
  refine X.opPRV (vs := [_]) rfl (hP _ _ (((hk1.trans hk2).trans hk3).trans hk4) hR4) X.wN rfl hG rfl (fun b5 hb5 => ?_) (fun hb5 => ?_)
  · rintro v5 w5 ⟨hv5, hR5, hx5⟩
    have hx5' := hx5.size
    obtain ⟨Ar, cr, hr1, hB5, hr2, hr3, hr4, hr5⟩ := hR5
    refine X.opE X.wN rfl (X.storeE Try.sizeOf33 ((hB1.keep ((hk2.trans hk3).trans hk4)).ext hx5 (by intros; (try simp only []); omega)) rfl rfl rfl (hV1 _ _ _ _ hv5)) ?_
    rintro _ w6 ⟨hB6, hx6, hz6⟩
    refine X.opsEnd ?_
    refine X.seq ?_
    refine X.regionD (fun k => k = w.heap.size) 6 (by kernel_rfl) (by kernel_rfl) (fun w7 hk7 hz7 => ?_)
    refine X.dTake 1 rfl (by kernel_rfl) (by kernel_rfl) (by kernel_rfl) (X.dwN rfl) (fun w' hk' => X.move rfl) ?_
    refine X.dTake 2 rfl (by kernel_rfl) (by kernel_rfl) (by kernel_rfl) (X.dwN rfl) (fun w' hk' => X.nilCk rfl) ?_
    refine X.dTake 3 rfl (by kernel_rfl) (by kernel_rfl) (by kernel_rfl) (X.dwN rfl) (fun w' hk' => X.fldB (j := 1) Try.underlying85 rfl rfl Try.sizeOf3 rfl) ?_
    refine X.dTake 4 rfl (by kernel_rfl) (by kernel_rfl) (by kernel_rfl) (X.dwN rfl) (fun w' hk' => X.load1B Try.isAgg3 (((hB5.ext hx6 (by intros; (try simp only []); omega)).keep hk7).ext hk' (by intros; (try simp only []); omega)) rfl rfl) ?_
    refine X.dStep (i := 0) (by kernel_rfl) rfl (X.dwN rfl) (X.load1B Try.isAgg33 (hB6.keep hk7) rfl rfl) (fun _ => Ext.refl _ _) ?_
    refine X.dE (i := 5) (by kernel_rfl) rfl (X.dwN rfl) (X.storeE Try.sizeOf33 (hB6.keep hk7) rfl rfl rfl (hV1 _ _ _ _ hv5)) (by rintro _ w8 ⟨hB8, hx8, hz8⟩ _; exact hx8) ?_
    rintro _ w8 ⟨hB8, hx8, hz8⟩
    refine X.dE (i := 6) (by kernel_rfl) rfl (X.dwN rfl) (X.storeE Try.sizeOf3 (((((hB2.keep (hk3.trans hk4)).ext hx5 (by intros; (try simp only []); omega)).ext hx6 (by intros; (try simp only []); omega)).keep hk7).ext hx8 (by intros; (try simp only []); omega)) rfl rfl rfl rfl) (fun _ _ _ h => absurd h (by decide)) ?_
    rintro _ w9 ⟨hB9, hx9, hz9⟩
    refine X.dE (i := 7) (by kernel_rfl) rfl (X.dwN rfl) (X.storeE Try.sizeOf26 ((((((hB3.keep hk4).ext hx5 (by intros; (try simp only []); omega)).ext hx6 (by intros; (try simp only []); omega)).keep hk7).ext hx8 (by intros; (try simp only []); omega)).ext hx9 (by intros; (try simp only []); omega)) rfl rfl rfl rfl) (fun _ _ _ h => absurd h (by decide)) ?_
    rintro _ w10 ⟨hB10, hx10, hz10⟩
    refine X.dEnd (by kernel_rfl) ?_
    refine X.ret_unw ?_
    refine X.unw_defer Try.call67 (fun h => by cases h) (caught_0 _ _) ?_
    rintro m wz ⟨rfl, rfl⟩
    show X.Unw _ _ _ FrameMode.returning _ _ _ _
    refine X.unw_defer Try.call71 (fun h => by cases h) (X.DCall.of_ret (zero0_u64 _ _ _ _ hB10)) ?_
    rintro m wz ⟨rfl, vz, rfl⟩
    show X.Unw _ _ _ FrameMode.returning _ _ _ _
    refine X.unwR3 Try.func49 Try.results49 (X.ResOk.cell rfl (X.lv1 Try.isAgg33 ((hB8.ext hx9 (by intros; (try simp only []); omega)).ext hx10 (by intros; (try simp only []); omega)) rfl)) (X.ResOk.cell rfl (X.lv1 Try.isAgg3 (hB9.ext hx10 (by intros; (try simp only []); omega)) rfl)) (X.ResOk.cell rfl (X.lv1 Try.isAgg26 hB10 rfl)) ?_
    refine ⟨?_, (((((((((hk1.trans hk2).trans hk3).trans hk4).step hx5 (by intros; (try simp only [] at *); omega)).step hx6 (by intros; (try simp only [] at *); omega)).trans hk7).step hx8 (by intros; (try simp only [] at *); omega)).step hx9 (by intros; (try simp only [] at *); omega)).step hx10 (by intros; (try simp only [] at *); omega))⟩
    rw [hb5]
    obtain ⟨a5, ys5⟩ := b5
    exact ⟨v5, w4, rfl, hV2 _ _ _ _ _ _ (hV2 _ _ _ _ _ _ (hV2 _ _ _ _ _ _ (hV2 _ _ _ _ _ _ (hV2 _ _ _ _ _ _ hv5 hx6 (by intro k h; first | exact h.elim | ((try simp only [] at h); omega))) hk7 (by intro k h; first | exact h.elim | ((try simp only [] at h); omega))) hx8 (by intro k h; first | exact h.elim | ((try simp only [] at h); omega))) hx9 (by intro k h; first | exact h.elim | ((try simp only [] at h); omega))) hx10 (by intro k h; first | exact h.elim | ((try simp only [] at h); omega)), (((hk1.trans hk2).trans hk3).trans hk4), by omega⟩
  · rintro w5 hx5
    have hx5' := hx5.size
    refine X.unw_defer Try.call67 (fun h => by cases h) (caught_1 _ _ _ ((hB3.keep hk4).ext hx5 (by intros; (try simp only []); omega))) ?_
    rintro m wz ⟨rfl, hBz, hxz⟩
    have hxz' := hxz.size
    show X.Unw _ _ _ FrameMode.returning _ _ _ _
    refine X.unw_defer Try.call71 (fun h => by cases h) (X.DCall.of_ret (zero1_u64 _ _ _ _ _ _ hBz (((hB1.keep ((hk2.trans hk3).trans hk4)).ext hx5 (by intros; (try simp only []); omega)).ext hxz (by intros; (try simp only []); omega)) (((hB2.keep (hk3.trans hk4)).ext hx5 (by intros; (try simp only []); omega)).ext hxz (by intros; (try simp only []); omega)) (by omega) (by omega) (by omega))) ?_
    rintro m wq ⟨rfl, vq, hq1, hq2, hq3, hq4⟩
    show X.Unw _ _ _ FrameMode.returning _ _ _ _
    refine X.unwR3 Try.func49 Try.results49 (X.ResOk.cell rfl (X.lv1 Try.isAgg33 hq2 rfl)) (X.ResOk.cell rfl (X.lv1 Try.isAgg3 hq3 rfl)) (X.ResOk.cell rfl (X.lv1 Try.isAgg26 hq1 rfl)) ?_
    refine ⟨?_, ((((((hk1.trans hk2).trans hk3).trans hk4).step hx5 (by intros; (try simp only [] at *); omega)).step hxz (by intros; (try simp only [] at *); omega)).step hq4 (by intros; (try simp only [] at *); omega))⟩
    rw [hb5]
-- f72 "pedigree/pack.take[int64]$1" params [] results [] -> [] nfree 3 ntmps 7 names ["", "", "", "none", "",
set_option maxHeartbeats 4000000 in
set_option maxRecDepth 100000 in
theorem zero0_i64 (be bx bn : Nat) (w : World) (hE : Blk w be [.int .i64 0] 26) : Ret Try.prog 72 #[.pointer (some ⟨be, 0, none⟩), .pointer (some ⟨bx, 0, none⟩), .pointer (some ⟨bn, 0, none⟩)] w fun _ w' => w' = w := by
  refine X.enter Try.func72 rfl Try.ntmps72 rfl ?_
  refine X.seq ?_
  refine X.region ?_
  refine X.opw X.wN rfl (X.load1B Try.isAgg26 hE rfl rfl) ?_
  refine X.opP X.wN rfl rfl (X.neI rfl rfl) (fun h5 => ?_) (fun h5 => ?_)
  · exact absurd rfl h5
  · refine X.opsEnd ?_
    refine X.condF rfl ?_
    refine X.skip ?_
    refine X.end0 Try.func72 Try.results72 ?_
    rfl
-- f72 "pedigree/pack.take[int64]$1" params [] results [] -> [] nfree 3 ntmps 7 names ["", "", "", "none", "",
set_option maxHeartbeats 4000000 in
set_option maxRecDepth 100000 in
theorem zero1_i64 (be bx bn : Nat) (x k : Value) (w : World) (hE : Blk w be [.int .i64 30] 26) (hX : Blk w bx [x] 2) (hN : Blk w bn [k] 3) (h1 : bx ≠ be) (h2 : bn ≠ be) (h3 : bn ≠ bx) : Ret Try.prog 72 #[.pointer (some ⟨be, 0, none⟩), .pointer (some ⟨bx, 0, none⟩), .pointer (some ⟨bn, 0, none⟩)] w
    fun _ w' => Blk w' be [.int .i64 30] 26 ∧ Blk w' bx [.int .i64 0] 2 ∧ Blk w' bn [.int .i64 0] 3 ∧ Ext (fun k => k = bx ∨ k = bn) w w' := by
  refine X.enter Try.func72 rfl Try.ntmps72 rfl ?_
  refine X.seq ?_
  refine X.region ?_
  refine X.opw X.wN rfl (X.load1B Try.isAgg26 hE rfl rfl) ?_
  refine X.opP X.wN rfl rfl (X.neI rfl rfl) (fun h5 => ?_) (fun h5 => ?_)
  · refine X.opsEnd ?_
    refine X.condT rfl ?_
    refine X.seq ?_
    refine X.region ?_
    refine X.opw X.wN rfl (X.assign rfl) ?_
    refine X.opsEnd ?_
    refine X.region ?_
    refine X.opw X.wN rfl (X.move (v := .int .i64 _) rfl) ?_
    refine X.opE X.wN rfl (X.storeE Try.sizeOf2 hX rfl rfl rfl rfl) ?_
    rintro _ w1 ⟨hB1, hx1, hz1⟩
    refine X.opE X.wN rfl (X.storeE Try.sizeOf3 (hN.ext hx1 (by intros; (try simp only []); omega)) rfl rfl rfl rfl) ?_
    rintro _ w2 ⟨hB2, hx2, hz2⟩
    refine X.opsEnd ?_
    refine X.end0 Try.func72 Try.results72 ?_
    exact ⟨((hE.ext hx1 (by intros; (try simp only []); omega)).ext hx2 (by intros; (try simp only []); omega)), (hB1.ext hx2 (by intros; (try simp only []); omega)), hB2, (Ext.andThen (Ext.andThen (Ext.refl (fun k => k = bx ∨ k = bn) _) hx1 (by intro k h1 h2; first | exact h2.elim | omega | (simp only [] at *; omega))) hx2 (by intro k h1 h2; first | exact h2.elim | omega | (simp only [] at *; omega)))⟩
  · exact absurd (by decide) h5
-- f52 "pedigree/pack.take[int64]" params [25, 97] results [2, 3, 26] -> [(ResultVar.cell 4 2), (ResultVar.cel
set_option maxHeartbeats 4000000 in
set_option maxRecDepth 100000 in
theorem take_i64 {α : Type} (p : List UInt8 → Option (α × List UInt8)) (V : World → α → Value → World → Prop) (G : Nat) (cap : List Value) (hG : ∀ args w, (callFunc G args).run Try.prog w = .ok (.enter G args) w) (xs : List UInt8) (A : Option Addr) (n c : Nat) (w : World) (hs : Sl KB 0 w.heap.size w A n xs) (hnc : n ≤ c) (hn : n ≤ 1000000)
    (hV1 : ∀ wb a v w1, V wb a v w1 → v.oneCell' = true) (hV2 : ∀ wb a v w1 w2 U, V wb a v w1 → Ext U w1 w2 → (∀ k, U k → k < wb.heap.size) → V wb a v w2)
    (hP : ∀ w' rb, Keep w w' → Rd w' rb rb n xs → PP G ([Value.pointer (some ⟨rb, 0, none⟩)] ++ cap).toArray w' rb rb n (p xs) (V w')) :
    Ret Try.prog 52 #[.slice A n c, .func (.func G) #[] cap.toArray] w fun r w' => (match p xs with
      | some (a, ys) => ∃ v wb, r = .tuple #[v, .int .i64 ((n : Int) - (ys.length : Int)), .int .i64 0] ∧ V wb a v w' ∧ Keep w wb ∧ wb.heap.size ≤ w'.heap.size
      | none => r = .tuple #[.int .i64 0, .int .i64 0, .int .i64 30]) ∧ Keep w w' := by
  have hl := hs.len
  refine X.enter Try.func52 rfl Try.ntmps52 rfl ?_
  refine X.seq ?_
  refine X.region ?_
  refine X.opE X.wN rfl (X.allocE Try.zeroValue2 rfl) ?_
  rintro _ w1 ⟨rfl, hB1, hk1, hz1⟩
  refine X.opE X.wN rfl (X.allocE Try.zeroValue3 rfl) ?_
  rintro _ w2 ⟨rfl, hB2, hk2, hz2⟩
  refine X.opE X.wN rfl (X.allocE Try.zeroValue26 rfl) ?_
  rintro _ w3 ⟨rfl, hB3, hk3, hz3⟩
  refine X.opsEnd ?_
  refine X.seq ?_
  refine X.region ?_
  refine X.opw X.wN rfl (X.mkFunc rfl) ?_
  refine X.opDefer X.wN rfl rfl ?_
  refine X.opsEnd ?_
  refine X.seq ?_
  refine X.region ?_
  refine X.opDefer X.wN rfl rfl ?_
  refine X.opsEnd ?_
  refine X.seq ?_
  refine X.region ?_
  refine X.opw X.wN rfl (X.move (v := .slice _ _ _) rfl) ?_
  refine X.opE X.wN rfl (X.callE (over_c _ ((hs.keep ((hk1.trans hk2).trans hk3)).wide (Nat.le_refl _) (by omega)) hnc hn) Try.call68 rfl rfl) ?_
  rintro _ w4 ⟨rfl, hR4, hk4, hz4⟩
  refine X.opw X.wN rfl (X.assign rfl) ?_
  refine X.opsEnd ?_
  refine X.seq ?_
  refine X.region ?_
  refine X.opw X.wN rfl (X.move rfl) ?_
  refine X.opw X.wN rfl (X.move rfl) ?_
  refine X.opPRV (vs := [_]) rfl (hP _ _ (((hk1.trans hk2).trans hk3).trans hk4) hR4) X.wN rfl hG rfl (fun b5 hb5 => ?_) (fun hb5 => ?_)
  · rintro v5 w5 ⟨hv5, hR5, hx5⟩
    have hx5' := hx5.size
    obtain ⟨Ar, cr, hr1, hB5, hr2, hr3, hr4, hr5⟩ := hR5
    refine X.opE X.wN rfl (X.storeE Try.sizeOf2 ((hB1.keep ((hk2.trans hk3).trans hk4)).ext hx5 (by intros; (try simp only []); omega)) rfl rfl rfl (hV1 _ _ _ _ hv5)) ?_
    rintro _ w6 ⟨hB6, hx6, hz6⟩
    refine X.opsEnd ?_
    refine X.seq ?_
    refine X.regionD (fun k => k = w.heap.size) 6 (by kernel_rfl) (by kernel_rfl) (fun w7 hk7 hz7 => ?_)
    refine X.dTake 1 rfl (by kernel_rfl) (by kernel_rfl) (by kernel_rfl) (X.dwN rfl) (fun w' hk' => X.move rfl) ?_
    refine X.dTake 2 rfl (by kernel_rfl) (by kernel_rfl) (by kernel_rfl) (X.dwN rfl) (fun w' hk' => X.nilCk rfl) ?_
    refine X.dTake 3 rfl (by kernel_rfl) (by kernel_rfl) (by kernel_rfl) (X.dwN rfl) (fun w' hk' => X.fldB (j := 1) Try.underlying85 rfl rfl Try.sizeOf3 rfl) ?_
    refine X.dTake 4 rfl (by kernel_rfl) (by kernel_rfl) (by kernel_rfl) (X.dwN rfl) (fun w' hk' => X.load1B Try.isAgg3 (((hB5.ext hx6 (by intros; (try simp only []); omega)).keep hk7).ext hk' (by intros; (try simp only []); omega)) rfl rfl) ?_
    refine X.dStep (i := 0) (by kernel_rfl) rfl (X.dwN rfl) (X.load1B Try.isAgg2 (hB6.keep hk7) rfl rfl) (fun _ => Ext.refl _ _) ?_
    refine X.dE (i := 5) (by kernel_rfl) rfl (X.dwN rfl) (X.storeE Try.sizeOf2 (hB6.keep hk7) rfl rfl rfl (hV1 _ _ _ _ hv5)) (by rintro _ w8 ⟨hB8, hx8, hz8⟩ _; exact hx8) ?_
    rintro _ w8 ⟨hB8, hx8, hz8⟩
    refine X.dE (i := 6) (by kernel_rfl) rfl (X.dwN rfl) (X.storeE Try.sizeOf3 (((((hB2.keep (hk3.trans hk4)).ext hx5 (by intros; (try simp only []); omega)).ext hx6 (by intros; (try simp only []); omega)).keep hk7).ext hx8 (by intros; (try simp only []); omega)) rfl rfl rfl rfl) (fun _ _ _ h => absurd h (by decide)) ?_
    rintro _ w9 ⟨hB9, hx9, hz9⟩
    refine X.dE (i := 7) (by kernel_rfl) rfl (X.dwN rfl) (X.storeE Try.sizeOf26 ((((((hB3.keep hk4).ext hx5 (by intros; (try simp only []); omega)).ext hx6 (by intros; (try simp only []); omega)).keep hk7).ext hx8 (by intros; (try simp only []); omega)).ext hx9 (by intros; (try simp only []); omega)) rfl rfl rfl rfl) (fun _ _ _ h => absurd h (by decide)) ?_
    rintro _ w10 ⟨hB10, hx10, hz10⟩
    refine X.dEnd (by kernel_rfl) ?_
    refine X.ret_unw ?_
    refine X.unw_defer Try.call67 (fun h => by cases h) (caught_0 _ _) ?_
    rintro m wz ⟨rfl, rfl⟩
    show X.Unw _ _ _ FrameMode.returning _ _ _ _
    refine X.unw_defer Try.call72 (fun h => by cases h) (X.DCall.of_ret (zero0_i64 _ _ _ _ hB10)) ?_
    rintro m wz ⟨rfl, vz, rfl⟩
    show X.Unw _ _ _ FrameMode.returning _ _ _ _
    refine X.unwR3 Try.func52 Try.results52 (X.ResOk.cell rfl (X.lv1 Try.isAgg2 ((hB8.ext hx9 (by intros; (try simp only []); omega)).ext hx10 (by intros; (try simp only []); omega)) rfl)) (X.ResOk.cell rfl (X.lv1 Try.isAgg3 (hB9.ext hx10 (by intros; (try simp only []); omega)) rfl)) (X.ResOk.cell rfl (X.lv1 Try.isAgg26 hB10 rfl)) ?_
    refine ⟨?_, (((((((((hk1.trans hk2).trans hk3).trans hk4).step hx5 (by intros; (try simp only [] at *); omega)).step hx6 (by intros; (try simp only [] at *); omega)).trans hk7).step hx8 (by intros; (try simp only [] at *); omega)).step hx9 (by intros; (try simp only [] at *); omega)).step hx10 (by intros; (try simp only [] at *); omega))⟩
    rw [hb5]
    obtain ⟨a5, ys5⟩ := b5
    exact ⟨v5, w4, rfl, hV2 _ _ _ _ _ _ (hV2 _ _ _ _ _ _ (hV2 _ _ _ _ _ _ (hV2 _ _ _ _ _ _ (hV2 _ _ _ _ _ _ hv5 hx6 (by intro k h; first | exact h.elim | ((try simp only [] at h); omega))) hk7 (by intro k h; first | exact h.elim | ((try simp only [] at h); omega))) hx8 (by intro k h; first | exact h.elim | ((try simp only [] at h); omega))) hx9 (by intro k h; first | exact h.elim | ((try simp only [] at h); omega))) hx10 (by intro k h; first | exact h.elim | ((try simp only [] at h); omega)), (((hk1.trans hk2).trans hk3).trans hk4), by omega⟩
  · rintro w5 hx5
    have hx5' := hx5.size
    refine X.unw_defer Try.call67 (fun h => by cases h) (caught_1 _ _ _ ((hB3.keep hk4).ext hx5 (by intros; (try simp only []); omega))) ?_
    rintro m wz ⟨rfl, hBz, hxz⟩
    have hxz' := hxz.size
    show X.Unw _ _ _ FrameMode.returning _ _ _ _
    refine X.unw_defer Try.call72 (fun h => by cases h) (X.DCall.of_ret (zero1_i64 _ _ _ _ _ _ hBz (((hB1.keep ((hk2.trans hk3).trans hk4)).ext hx5 (by intros; (try simp only []); omega)).ext hxz (by intros; (try simp only []); omega)) (((hB2.keep (hk3.trans hk4)).ext hx5 (by intros; (try simp only []); omega)).ext hxz (by intros; (try simp only []); omega)) (by omega) (by omega) (by omega))) ?_
    rintro m wq ⟨rfl, vq, hq1, hq2, hq3, hq4⟩
    show X.Unw _ _ _ FrameMode.returning _ _ _ _
    refine X.unwR3 Try.func52 Try.results52 (X.ResOk.cell rfl (X.lv1 Try.isAgg2 hq2 rfl)) (X.ResOk.cell rfl (X.lv1 Try.isAgg3 hq3 rfl)) (X.ResOk.cell rfl (X.lv1 Try.isAgg26 hq1 rfl)) ?_
    refine ⟨?_, ((((((hk1.trans hk2).trans hk3).trans hk4).step hx5 (by intros; (try simp only [] at *); omega)).step hxz (by intros; (try simp only [] at *); omega)).step hq4 (by intros; (try simp only [] at *); omega))⟩
    rw [hb5]
-- f73 "pedigree/pack.take[[]byte]$1" params [] results [] -> [] nfree 3 ntmps 7 names ["", "", "", "none", ""
set_option maxHeartbeats 4000000 in
set_option maxRecDepth 100000 in
theorem zero0_row (be bx bn : Nat) (w : World) (hE : Blk w be [.int .i64 0] 26) : Ret Try.prog 73 #[.pointer (some ⟨be, 0, none⟩), .pointer (some ⟨bx, 0, none⟩), .pointer (some ⟨bn, 0, none⟩)] w fun _ w' => w' = w := by
  refine X.enter Try.func73 rfl Try.ntmps73 rfl ?_
  refine X.seq ?_
  refine X.region ?_
  refine X.opw X.wN rfl (X.load1B Try.isAgg26 hE rfl rfl) ?_
  refine X.opP X.wN rfl rfl (X.neI rfl rfl) (fun h5 => ?_) (fun h5 => ?_)
  · exact absurd rfl h5
  · refine X.opsEnd ?_
    refine X.condF rfl ?_
    refine X.skip ?_
    refine X.end0 Try.func73 Try.results73 ?_
    rfl
-- f73 "pedigree/pack.take[[]byte]$1" params [] results [] -> [] nfree 3 ntmps 7 names ["", "", "", "none", ""
set_option maxHeartbeats 4000000 in
set_option maxRecDepth 100000 in
theorem zero1_row (be bx bn : Nat) (x k : Value) (w : World) (hE : Blk w be [.int .i64 30] 26) (hX : Blk w bx [x] 25) (hN : Blk w bn [k] 3) (h1 : bx ≠ be) (h2 : bn ≠ be) (h3 : bn ≠ bx) : Ret Try.prog 73 #[.pointer (some ⟨be, 0, none⟩), .pointer (some ⟨bx, 0, none⟩), .pointer (some ⟨bn, 0, none⟩)] w
    fun _ w' => Blk w' be [.int .i64 30] 26 ∧ Blk w' bx [.slice none 0 0] 25 ∧ Blk w' bn [.int .i64 0] 3 ∧ Ext (fun k => k = bx ∨ k = bn) w w' := by
  refine X.enter Try.func73 rfl Try.ntmps73 rfl ?_
  refine X.seq ?_
  refine X.region ?_
  refine X.opw X.wN rfl (X.load1B Try.isAgg26 hE rfl rfl) ?_
  refine X.opP X.wN rfl rfl (X.neI rfl rfl) (fun h5 => ?_) (fun h5 => ?_)
  · refine X.opsEnd ?_
    refine X.condT rfl ?_
    refine X.seq ?_
    refine X.region ?_
    refine X.opw X.wN rfl (X.assign rfl) ?_
    refine X.opsEnd ?_
    refine X.region ?_
    refine X.opw X.wN rfl (X.move rfl) ?_
    refine X.opE X.wN rfl (X.storeE Try.sizeOf25 hX rfl rfl rfl rfl) ?_
    rintro _ w1 ⟨hB1, hx1, hz1⟩
    refine X.opE X.wN rfl (X.storeE Try.sizeOf3 (hN.ext hx1 (by intros; (try simp only []); omega)) rfl rfl rfl rfl) ?_
    rintro _ w2 ⟨hB2, hx2, hz2⟩
    refine X.opsEnd ?_
    refine X.end0 Try.func73 Try.results73 ?_
    exact ⟨((hE.ext hx1 (by intros; (try simp only []); omega)).ext hx2 (by intros; (try simp only []); omega)), (hB1.ext hx2 (by intros; (try simp only []); omega)), hB2, (Ext.andThen (Ext.andThen (Ext.refl (fun k => k = bx ∨ k = bn) _) hx1 (by intro k h1 h2; first | exact h2.elim | omega | (simp only [] at *; omega))) hx2 (by intro k h1 h2; first | exact h2.elim | omega | (simp only [] at *; omega)))⟩
  · exact absurd (by decide) h5
-- f55 "pedigree/pack.take[[]byte]" params [25, 100] results [25, 3, 26] -> [(ResultVar.cell 4 25), (ResultVar
set_option maxHeartbeats 4000000 in
set_option maxRecDepth 100000 in
theorem take_row {α : Type} (p : List UInt8 → Option (α × List UInt8)) (V : World → α → Value → World → Prop) (G : Nat) (cap : List Value) (hG : ∀ args w, (callFunc G args).run Try.prog w = .ok (.enter G args) w) (xs : List UInt8) (A : Option Addr) (n c : Nat) (w : World) (hs : Sl KB 0 w.heap.size w A n xs) (hnc : n ≤ c) (hn : n ≤ 1000000)
    (hV1 : ∀ wb a v w1, V wb a v w1 → v.oneCell' = true) (hV2 : ∀ wb a v w1 w2 U, V wb a v w1 → Ext U w1 w2 → (∀ k, U k → k < wb.heap.size) → V wb a v w2)
    (hP : ∀ w' rb, Keep w w' → Rd w' rb rb n xs → PP G ([Value.pointer (some ⟨rb, 0, none⟩)] ++ cap).toArray w' rb rb n (p xs) (V w')) :
    Ret Try.prog 55 #[.slice A n c, .func (.func G) #[] cap.toArray] w fun r w' => (match p xs with
      | some (a, ys) => ∃ v wb, r = .tuple #[v, .int .i64 ((n : Int) - (ys.length : Int)), .int .i64 0] ∧ V wb a v w' ∧ Keep w wb ∧ wb.heap.size ≤ w'.heap.size
      | none => r = .tuple #[.slice none 0 0, .int .i64 0, .int .i64 30]) ∧ Keep w w' := by
  have hl := hs.len
  refine X.enter Try.func55 rfl Try.ntmps55 rfl ?_
  refine X.seq ?_
  refine X.region ?_
  refine X.opE X.wN rfl (X.allocE Try.zeroValue25 rfl) ?_
  rintro _ w1 ⟨rfl, hB1, hk1, hz1⟩
  refine X.opE X.wN rfl (X.allocE Try.zeroValue3 rfl) ?_
  rintro _ w2 ⟨rfl, hB2, hk2, hz2⟩
  refine X.opE X.wN rfl (X.allocE Try.zeroValue26 rfl) ?_
  rintro _ w3 ⟨rfl, hB3, hk3, hz3⟩
  refine X.opsEnd ?_
  refine X.seq ?_
  refine X.region ?_
  refine X.opw X.wN rfl (X.mkFunc rfl) ?_
  refine X.opDefer X.wN rfl rfl ?_
  refine X.opsEnd ?_
  refine X.seq ?_
  refine X.region ?_
  refine X.opDefer X.wN rfl rfl ?_
  refine X.opsEnd ?_
  refine X.seq ?_
  refine X.region ?_
  refine X.opw X.wN rfl (X.move (v := .slice _ _ _) rfl) ?_
  refine X.opE X.wN rfl (X.callE (over_c _ ((hs.keep ((hk1.trans hk2).trans hk3)).wide (Nat.le_refl _) (by omega)) hnc hn) Try.call68 rfl rfl) ?_
  rintro _ w4 ⟨rfl, hR4, hk4, hz4⟩
  refine X.opw X.wN rfl (X.assign rfl) ?_
  refine X.opsEnd ?_
  refine X.seq ?_
  refine X.region ?_
  refine X.opw X.wN rfl (X.move rfl) ?_
  refine X.opw X.wN rfl (X.move rfl) ?_
  refine X.opPRV (vs := [_]) rfl (hP _ _ (((hk1.trans hk2).trans hk3).trans hk4) hR4) X.wN rfl hG rfl (fun b5 hb5 => ?_) (fun hb5 => ?_)
  · rintro v5 w5 ⟨hv5, hR5, hx5⟩
    have hx5' := hx5.size
    obtain ⟨Ar, cr, hr1, hB5, hr2, hr3, hr4, hr5⟩ := hR5
    refine X.opE X.wN rfl (X.storeE Try.sizeOf25 ((hB1.keep ((hk2.trans hk3).trans hk4)).ext hx5 (by intros; (try simp only []); omega)) rfl rfl rfl (hV1 _ _ _ _ hv5)) ?_
    rintro _ w6 ⟨hB6, hx6, hz6⟩
    refine X.opsEnd ?_
    refine X.seq ?_
    refine X.regionD (fun k => k = w.heap.size) 6 (by kernel_rfl) (by kernel_rfl) (fun w7 hk7 hz7 => ?_)
    refine X.dTake 1 rfl (by kernel_rfl) (by kernel_rfl) (by kernel_rfl) (X.dwN rfl) (fun w' hk' => X.move rfl) ?_
    refine X.dTake 2 rfl (by kernel_rfl) (by kernel_rfl) (by kernel_rfl) (X.dwN rfl) (fun w' hk' => X.nilCk rfl) ?_
    refine X.dTake 3 rfl (by kernel_rfl) (by kernel_rfl) (by kernel_rfl) (X.dwN rfl) (fun w' hk' => X.fldB (j := 1) Try.underlying85 rfl rfl Try.sizeOf3 rfl) ?_
    refine X.dTake 4 rfl (by kernel_rfl) (by kernel_rfl) (by kernel_rfl) (X.dwN rfl) (fun w' hk' => X.load1B Try.isAgg3 (((hB5.ext hx6 (by intros; (try simp only []); omega)).keep hk7).ext hk' (by intros; (try simp only []); omega)) rfl rfl) ?_
    refine X.dStep (i := 0) (by kernel_rfl) rfl (X.dwN rfl) (X.load1B Try.isAgg25 (hB6.keep hk7) rfl rfl) (fun _ => Ext.refl _ _) ?_
    refine X.dE (i := 5) (by kernel_rfl) rfl (X.dwN rfl) (X.storeE Try.sizeOf25 (hB6.keep hk7) rfl rfl rfl (hV1 _ _ _ _ hv5)) (by rintro _ w8 ⟨hB8, hx8, hz8⟩ _; exact hx8) ?_
    rintro _ w8 ⟨hB8, hx8, hz8⟩
    refine X.dE (i := 6) (by kernel_rfl) rfl (X.dwN rfl) (X.storeE Try.sizeOf3 (((((hB2.keep (hk3.trans hk4)).ext hx5 (by intros; (try simp only []); omega)).ext hx6 (by intros; (try simp only []); omega)).keep hk7).ext hx8 (by intros; (try simp only []); omega)) rfl rfl rfl rfl) (fun _ _ _ h => absurd h (by decide)) ?_
    rintro _ w9 ⟨hB9, hx9, hz9⟩
    refine X.dE (i := 7) (by kernel_rfl) rfl (X.dwN rfl) (X.storeE Try.sizeOf26 ((((((hB3.keep hk4).ext hx5 (by intros; (try simp only []); omega)).ext hx6 (by intros; (try simp only []); omega)).keep hk7).ext hx8 (by intros; (try simp only []); omega)).ext hx9 (by intros; (try simp only []); omega)) rfl rfl rfl rfl) (fun _ _ _ h => absurd h (by decide)) ?_
    rintro _ w10 ⟨hB10, hx10, hz10⟩
    refine X.dEnd (by kernel_rfl) ?_
    refine X.ret_unw ?_
    refine X.unw_defer Try.call67 (fun h => by cases h) (caught_0 _ _) ?_
    rintro m wz ⟨rfl, rfl⟩
    show X.Unw _ _ _ FrameMode.returning _ _ _ _
    refine X.unw_defer Try.call73 (fun h => by cases h) (X.DCall.of_ret (zero0_row _ _ _ _ hB10)) ?_
    rintro m wz ⟨rfl, vz, rfl⟩
    show X.Unw _ _ _ FrameMode.returning _ _ _ _
    refine X.unwR3 Try.func55 Try.results55 (X.ResOk.cell rfl (X.lv1 Try.isAgg25 ((hB8.ext hx9 (by intros; (try simp only []); omega)).ext hx10 (by intros; (try simp only []); omega)) rfl)) (X.ResOk.cell rfl (X.lv1 Try.isAgg3 (hB9.ext hx10 (by intros; (try simp only []); omega)) rfl)) (X.ResOk.cell rfl (X.lv1 Try.isAgg26 hB10 rfl)) ?_
    refine ⟨?_, (((((((((hk1.trans hk2).trans hk3).trans hk4).step hx5 (by intros; (try simp only [] at *); omega)).step hx6 (by intros; (try simp only [] at *); omega)).trans hk7).step hx8 (by intros; (try simp only [] at *); omega)).step hx9 (by intros; (try simp only [] at *); omega)).step hx10 (by intros; (try simp only [] at *); omega))⟩
    rw [hb5]
    obtain ⟨a5, ys5⟩ := b5
    exact ⟨v5, w4, rfl, hV2 _ _ _ _ _ _ (hV2 _ _ _ _ _ _ (hV2 _ _ _ _ _ _ (hV2 _ _ _ _ _ _ (hV2 _ _ _ _ _ _ hv5 hx6 (by intro k h; first | exact h.elim | ((try simp only [] at h); omega))) hk7 (by intro k h; first | exact h.elim | ((try simp only [] at h); omega))) hx8 (by intro k h; first | exact h.elim | ((try simp only [] at h); omega))) hx9 (by intro k h; first | exact h.elim | ((try simp only [] at h); omega))) hx10 (by intro k h; first | exact h.elim | ((try simp only [] at h); omega)), (((hk1.trans hk2).trans hk3).trans hk4), by omega⟩
  · rintro w5 hx5
    have hx5' := hx5.size
    refine X.unw_defer Try.call67 (fun h => by cases h) (caught_1 _ _ _ ((hB3.keep hk4).ext hx5 (by intros; (try simp only []); omega))) ?_
    rintro m wz ⟨rfl, hBz, hxz⟩
    have hxz' := hxz.size
    show X.Unw _ _ _ FrameMode.returning _ _ _ _
    refine X.unw_defer Try.call73 (fun h => by cases h) (X.DCall.of_ret (zero1_row _ _ _ _ _ _ hBz (((hB1.keep ((hk2.trans hk3).trans hk4)).ext hx5 (by intros; (try simp only []); omega)).ext hxz (by intros; (try simp only []); omega)) (((hB2.keep (hk3.trans hk4)).ext hx5 (by intros; (try simp only []); omega)).ext hxz (by intros; (try simp only []); omega)) (by omega) (by omega) (by omega))) ?_
    rintro m wq ⟨rfl, vq, hq1, hq2, hq3, hq4⟩
    show X.Unw _ _ _ FrameMode.returning _ _ _ _
    refine X.unwR3 Try.func55 Try.results55 (X.ResOk.cell rfl (X.lv1 Try.isAgg25 hq2 rfl)) (X.ResOk.cell rfl (X.lv1 Try.isAgg3 hq3 rfl)) (X.ResOk.cell rfl (X.lv1 Try.isAgg26 hq1 rfl)) ?_
    refine ⟨?_, ((((((hk1.trans hk2).trans hk3).trans hk4).step hx5 (by intros; (try simp only [] at *); omega)).step hxz (by intros; (try simp only [] at *); omega)).step hq4 (by intros; (try simp only [] at *); omega))⟩
    rw [hb5]
-- f66 "pedigree/pack.take[pedigree/api.Tuple]$1" params [] results [] -> [] nfree 3 ntmps 7 names ["", "", ""
set_option maxHeartbeats 4000000 in
set_option maxRecDepth 100000 in
theorem zero0_tup (be bx bn : Nat) (w : World) (hE : Blk w be [.int .i64 0] 26) : Ret Try.prog 66 #[.pointer (some ⟨be, 0, none⟩), .pointer (some ⟨bx, 0, none⟩), .pointer (some ⟨bn, 0, none⟩)] w fun _ w' => w' = w := by
  refine X.enter Try.func66 rfl Try.ntmps66 rfl ?_
  refine X.seq ?_
  refine X.region ?_
  refine X.opw X.wN rfl (X.load1B Try.isAgg26 hE rfl rfl) ?_
  refine X.opP X.wN rfl rfl (X.neI rfl rfl) (fun h5 => ?_) (fun h5 => ?_)
  · exact absurd rfl h5
  · refine X.opsEnd ?_
    refine X.condF rfl ?_
    refine X.skip ?_
    refine X.end0 Try.func66 Try.results66 ?_
    rfl
-- f66 "pedigree/pack.take[pedigree/api.Tuple]$1" params [] results [] -> [] nfree 3 ntmps 7 names ["", "", ""
set_option maxHeartbeats 4000000 in
set_option maxRecDepth 100000 in
theorem zero1_tup (be bx bn : Nat) (x k : Value) (w : World) (hE : Blk w be [.int .i64 30] 26) (hX : Blk w bx [x] 23) (hN : Blk w bn [k] 3) (h1 : bx ≠ be) (h2 : bn ≠ be) (h3 : bn ≠ bx) : Ret Try.prog 66 #[.pointer (some ⟨be, 0, none⟩), .pointer (some ⟨bx, 0, none⟩), .pointer (some ⟨bn, 0, none⟩)] w
    fun _ w' => Blk w' be [.int .i64 30] 26 ∧ Blk w' bx [.slice none 0 0] 23 ∧ Blk w' bn [.int .i64 0] 3 ∧ Ext (fun k => k = bx ∨ k = bn) w w' := by
  refine X.enter Try.func66 rfl Try.ntmps66 rfl ?_
  refine X.seq ?_
  refine X.region ?_
  refine X.opw X.wN rfl (X.load1B Try.isAgg26 hE rfl rfl) ?_
  refine X.opP X.wN rfl rfl (X.neI rfl rfl) (fun h5 => ?_) (fun h5 => ?_)
  · refine X.opsEnd ?_
    refine X.condT rfl ?_
    refine X.seq ?_
    refine X.region ?_
    refine X.opw X.wN rfl (X.assign rfl) ?_
    refine X.opsEnd ?_
    refine X.region ?_
    refine X.opw X.wN rfl (X.move rfl) ?_
    refine X.opE X.wN rfl (X.storeE Try.sizeOf23 hX rfl rfl rfl rfl) ?_
    rintro _ w1 ⟨hB1, hx1, hz1⟩
    refine X.opE X.wN rfl (X.storeE Try.sizeOf3 (hN.ext hx1 (by intros; (try simp only []); omega)) rfl rfl rfl rfl) ?_
    rintro _ w2 ⟨hB2, hx2, hz2⟩
    refine X.opsEnd ?_
    refine X.end0 Try.func66 Try.results66 ?_
    exact ⟨((hE.ext hx1 (by intros; (try simp only []); omega)).ext hx2 (by intros; (try simp only []); omega)), (hB1.ext hx2 (by intros; (try simp only []); omega)), hB2, (Ext.andThen (Ext.andThen (Ext.refl (fun k => k = bx ∨ k = bn) _) hx1 (by intro k h1 h2; first | exact h2.elim | omega | (simp only [] at *; omega))) hx2 (by intro k h1 h2; first | exact h2.elim | omega | (simp only [] at *; omega)))⟩
  · exact absurd (by decide) h5
-- f45 "pedigree/pack.take[pedigree/api.Tuple]" params [25, 89] results [23, 3, 26] -> [(ResultVar.cell 4 23),
set_option maxHeartbeats 4000000 in
set_option maxRecDepth 100000 in
theorem take_tup {α : Type} (p : List UInt8 → Option (α × List UInt8)) (V : World → α → Value → World → Prop) (G : Nat) (cap : List Value) (hG : ∀ args w, (callFunc G args).run Try.prog w = .ok (.enter G args) w) (xs : List UInt8) (A : Option Addr) (n c : Nat) (w : World) (hs : Sl KB 0 w.heap.size w A n xs) (hnc : n ≤ c) (hn : n ≤ 1000000)
    (hV1 : ∀ wb a v w1, V wb a v w1 → v.oneCell' = true) (hV2 : ∀ wb a v w1 w2 U, V wb a v w1 → Ext U w1 w2 → (∀ k, U k → k < wb.heap.size) → V wb a v w2)
    (hP : ∀ w' rb, Keep w w' → Rd w' rb rb n xs → PP G ([Value.pointer (some ⟨rb, 0, none⟩)] ++ cap).toArray w' rb rb n (p xs) (V w')) :
    Ret Try.prog 45 #[.slice A n c, .func (.func G) #[] cap.toArray] w fun r w' => (match p xs with
      | some (a, ys) => ∃ v wb, r = .tuple #[v, .int .i64 ((n : Int) - (ys.length : Int)), .int .i64 0] ∧ V wb a v w' ∧ Keep w wb ∧ wb.heap.size ≤ w'.heap.size
      | none => r = .tuple #[.slice none 0 0, .int .i64 0, .int .i64 30]) ∧ Keep w w' := by
  have hl := hs.len
  refine X.enter Try.func45 rfl Try.ntmps45 rfl ?_
  refine X.seq ?_
  refine X.region ?_
  refine X.opE X.wN rfl (X.allocE Try.zeroValue23 rfl) ?_
  rintro _ w1 ⟨rfl, hB1, hk1, hz1⟩
  refine X.opE X.wN rfl (X.allocE Try.zeroValue3 rfl) ?_
  rintro _ w2 ⟨rfl, hB2, hk2, hz2⟩
  refine X.opE X.wN rfl (X.allocE Try.zeroValue26 rfl) ?_
  rintro _ w3 ⟨rfl, hB3, hk3, hz3⟩
  refine X.opsEnd ?_
  refine X.seq ?_
  refine X.region ?_
  refine X.opw X.wN rfl (X.mkFunc rfl) ?_
  refine X.opDefer X.wN rfl rfl ?_
  refine X.opsEnd ?_
  refine X.seq ?_
  refine X.region ?_
  refine X.opDefer X.wN rfl rfl ?_
  refine X.opsEnd ?_
  refine X.seq ?_
  refine X.region ?_
  refine X.opw X.wN rfl (X.move (v := .slice _ _ _) rfl) ?_
  refine X.opE X.wN rfl (X.callE (over_c _ ((hs.keep ((hk1.trans hk2).trans hk3)).wide (Nat.le_refl _) (by omega)) hnc hn) Try.call68 rfl rfl) ?_
  rintro _ w4 ⟨rfl, hR4, hk4, hz4⟩
  refine X.opw X.wN rfl (X.assign rfl) ?_
  refine X.opsEnd ?_
  refine X.seq ?_
  refine X.region ?_
  refine X.opw X.wN rfl (X.move rfl) ?_
  refine X.opw X.wN rfl (X.move rfl) ?_
  refine X.opPRV (vs := [_]) rfl (hP _ _ (((hk1.trans hk2).trans hk3).trans hk4) hR4) X.wN rfl hG rfl (fun b5 hb5 => ?_) (fun hb5 => ?_)
  · rintro v5 w5 ⟨hv5, hR5, hx5⟩
    have hx5' := hx5.size
    obtain ⟨Ar, cr, hr1, hB5, hr2, hr3, hr4, hr5⟩ := hR5
    refine X.opE X.wN rfl (X.storeE Try.sizeOf23 ((hB1.keep ((hk2.trans hk3).trans hk4)).ext hx5 (by intros; (try simp only []); omega)) rfl rfl rfl (hV1 _ _ _ _ hv5)) ?_
    rintro _ w6 ⟨hB6, hx6, hz6⟩
    refine X.opsEnd ?_
    refine X.seq ?_
    refine X.regionD (fun k => k = w.heap.size) 6 (by kernel_rfl) (by kernel_rfl) (fun w7 hk7 hz7 => ?_)
    refine X.dTake 1 rfl (by kernel_rfl) (by kernel_rfl) (by kernel_rfl) (X.dwN rfl) (fun w' hk' => X.move rfl) ?_
    refine X.dTake 2 rfl (by kernel_rfl) (by kernel_rfl) (by kernel_rfl) (X.dwN rfl) (fun w' hk' => X.nilCk rfl) ?_
    refine X.dTake 3 rfl (by kernel_rfl) (by kernel_rfl) (by kernel_rfl) (X.dwN rfl) (fun w' hk' => X.fldB (j := 1) Try.underlying85 rfl rfl Try.sizeOf3 rfl) ?_
    refine X.dTake 4 rfl (by kernel_rfl) (by kernel_rfl) (by kernel_rfl) (X.dwN rfl) (fun w' hk' => X.load1B Try.isAgg3 (((hB5.ext hx6 (by intros; (try simp only []); omega)).keep hk7).ext hk' (by intros; (try simp only []); omega)) rfl rfl) ?_
    refine X.dStep (i := 0) (by kernel_rfl) rfl (X.dwN rfl) (X.load1B Try.isAgg23 (hB6.keep hk7) rfl rfl) (fun _ => Ext.refl _ _) ?_
    refine X.dE (i := 5) (by kernel_rfl) rfl (X.dwN rfl) (X.storeE Try.sizeOf23 (hB6.keep hk7) rfl rfl rfl (hV1 _ _ _ _ hv5)) (by rintro _ w8 ⟨hB8, hx8, hz8⟩ _; exact hx8) ?_
    rintro _ w8 ⟨hB8, hx8, hz8⟩
    refine X.dE (i := 6) (by kernel_rfl) rfl (X.dwN rfl) (X.storeE Try.sizeOf3 (((((hB2.keep (hk3.trans hk4)).ext hx5 (by intros; (try simp only []); omega)).ext hx6 (by intros; (try simp only []); omega)).keep hk7).ext hx8 (by intros; (try simp only []); omega)) rfl rfl rfl rfl) (fun _ _ _ h => absurd h (by decide)) ?_
    rintro _ w9 ⟨hB9, hx9, hz9⟩
    refine X.dE (i := 7) (by kernel_rfl) rfl (X.dwN rfl) (X.storeE Try.sizeOf26 ((((((hB3.keep hk4).ext hx5 (by intros; (try simp only []); omega)).ext hx6 (by intros; (try simp only []); omega)).keep hk7).ext hx8 (by intros; (try simp only []); omega)).ext hx9 (by intros; (try simp only []); omega)) rfl rfl rfl rfl) (fun _ _ _ h => absurd h (by decide)) ?_
    rintro _ w10 ⟨hB10, hx10, hz10⟩
    refine X.dEnd (by kernel_rfl) ?_
    refine X.ret_unw ?_
    refine X.unw_defer Try.call67 (fun h => by cases h) (caught_0 _ _) ?_
    rintro m wz ⟨rfl, rfl⟩
    show X.Unw _ _ _ FrameMode.returning _ _ _ _
    refine X.unw_defer Try.call66 (fun h => by cases h) (X.DCall.of_ret (zero0_tup _ _ _ _ hB10)) ?_
    rintro m wz ⟨rfl, vz, rfl⟩
    show X.Unw _ _ _ FrameMode.returning _ _ _ _
    refine X.unwR3 Try.func45 Try.results45 (X.ResOk.cell rfl (X.lv1 Try.isAgg23 ((hB8.ext hx9 (by intros; (try simp only []); omega)).ext hx10 (by intros; (try simp only []); omega)) rfl)) (X.ResOk.cell rfl (X.lv1 Try.isAgg3 (hB9.ext hx10 (by intros; (try simp only []); omega)) rfl)) (X.ResOk.cell rfl (X.lv1 Try.isAgg26 hB10 rfl)) ?_
    refine ⟨?_, (((((((((hk1.trans hk2).trans hk3).trans hk4).step hx5 (by intros; (try simp only [] at *); omega)).step hx6 (by intros; (try simp only [] at *); omega)).trans hk7).step hx8 (by intros; (try simp only [] at *); omega)).step hx9 (by intros; (try simp only [] at *); omega)).step hx10 (by intros; (try simp only [] at *); omega))⟩
    rw [hb5]
    obtain ⟨a5, ys5⟩ := b5
    exact ⟨v5, w4, rfl, hV2 _ _ _ _ _ _ (hV2 _ _ _ _ _ _ (hV2 _ _ _ _ _ _ (hV2 _ _ _ _ _ _ (hV2 _ _ _ _ _ _ hv5 hx6 (by intro k h; first | exact h.elim | ((try simp only [] at h); omega))) hk7 (by intro k h; first | exact h.elim | ((try simp only [] at h); omega))) hx8 (by intro k h; first | exact h.elim | ((try simp only [] at h); omega))) hx9 (by intro k h; first | exact h.elim | ((try simp only [] at h); omega))) hx10 (by intro k h; first | exact h.elim | ((try simp only [] at h); omega)), (((hk1.trans hk2).trans hk3).trans hk4), by omega⟩
  · rintro w5 hx5
    have hx5' := hx5.size
    refine X.unw_defer Try.call67 (fun h => by cases h) (caught_1 _ _ _ ((hB3.keep hk4).ext hx5 (by intros; (try simp only []); omega))) ?_
    rintro m wz ⟨rfl, hBz, hxz⟩
    have hxz' := hxz.size
    show X.Unw _ _ _ FrameMode.returning _ _ _ _
    refine X.unw_defer Try.call66 (fun h => by cases h) (X.DCall.of_ret (zero1_tup _ _ _ _ _ _ hBz (((hB1.keep ((hk2.trans hk3).trans hk4)).ext hx5 (by intros; (try simp only []); omega)).ext hxz (by intros; (try simp only []); omega)) (((hB2.keep (hk3.trans hk4)).ext hx5 (by intros; (try simp only []); omega)).ext hxz (by intros; (try simp only []); omega)) (by omega) (by omega) (by omega))) ?_
    rintro m wq ⟨rfl, vq, hq1, hq2, hq3, hq4⟩
    show X.Unw _ _ _ FrameMode.returning _ _ _ _
    refine X.unwR3 Try.func45 Try.results45 (X.ResOk.cell rfl (X.lv1 Try.isAgg23 hq2 rfl)) (X.ResOk.cell rfl (X.lv1 Try.isAgg3 hq3 rfl)) (X.ResOk.cell rfl (X.lv1 Try.isAgg26 hq1 rfl)) ?_
    refine ⟨?_, ((((((hk1.trans hk2).trans hk3).trans hk4).step hx5 (by intros; (try simp only [] at *); omega)).step hxz (by intros; (try simp only [] at *); omega)).step hq4 (by intros; (try simp only [] at *); omega))⟩
    rw [hb5]
end Go.Proofs.Ytaclpphhidlgpaa
