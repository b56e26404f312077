/- Texts that the proof of DiskRoom stands on, part 17. -/
import Derived.Test.YtcdebnppbnmmgaaGreatProg
import Derived.Test.YtcdebnppbnmmgaaGreatBunDiskRoom16

namespace Go.Proofs.YtcdebnppbnmmgaaGreat
open Go Go.Proofs.YtcdebnppbnmmgaaGreat.X
set_option linter.unusedVariables false
set_option linter.unusedSimpArgs false
theorem xs_head {xs : List UInt8} (h : 0 < xs.length) : xs[0]? = some (xs.getD 0 0) := by
  cases xs with
  | nil => exact absurd h (by simp)
  | cons x xs => rfl
set_option maxHeartbeats 4000000 in
set_option maxRecDepth 100000 in
theorem act_c {g b x m p : Nat} {ca cb : Nat → Nat} {r : Int} {s : DS} {t : RS} {y1 y4 y6 : Int} {nm to : ByteArray} {Ab A2 A3 : Option Addr} {nb cb0 n2 c2 n3 c3 : Nat} {xs : List UInt8} (w : World) (h : Tw g ca cb w b x m r s t) (hm : m ≤ 40000) (hP : Blk w p [ptrV b, ptrV x] 29) (hp1 : ca p = 0) (hp2 : cb p = 0) (h9 : y1 ≠ 9) (hn : nm.size ≤ 65) (hto : to.size ≤ 65) (hy4 : -9223372036854775808 ≤ y4 ∧ y4 ≤ 9223372036854775807) (hb : Sl KB 0 g w Ab nb xs) (hnb : nb ≤ 400) :
    Ret Tryz.prog 7 #[ptrV p, .agg #[.int .i64 y1, .string nm, .string to, .int .i64 y4, .slice Ab nb cb0, .int .i64 y6, .slice A2 n2 c2, .slice A3 n3 c3]] w fun v w' => ∃ e s' t' ca' cb', v = .tuple #[.int .i64 e, .bool true] ∧ Tw g ca' cb' w' b x (m + 2) r s' t' ∧ (∀ q, q < w.heap.size → ca' q = ca q ∧ cb' q = cb q) ∧ Ext (fun q => ca q ≠ 0 ∨ cb q ≠ 0) w w' := by
  have hpl := hP.lt
  have hgw := h.gw
  have hxl := hb.len
  refine X.enter Tryz.func7 rfl Tryz.ntmps7 rfl ?_
  refine X.seq ?_
  refine X.region ?_
  refine X.opE X.wN rfl (X.boxE rfl rfl) ?_
  rintro _ w1 ⟨rfl, hB1, hk1, hz1⟩
  refine X.opw X.wN rfl (X.assign rfl) ?_
  refine X.opw X.wN rfl (X.assign rfl) ?_
  refine X.opsEnd ?_
  refine X.seq ?_
  refine X.region ?_
  refine X.opw X.wN rfl (X.assign rfl) ?_
  refine X.opw X.wN rfl (X.assign rfl) ?_
  refine X.opsEnd ?_
  refine X.seq ?_
  refine X.seq ?_
  refine X.region ?_
  refine X.opw X.wN rfl (X.fldB (j := 0) Tryz.underlying36 rfl rfl Tryz.sizeOf3 rfl) ?_
  refine X.opw X.wN rfl (X.load1B Tryz.isAgg3 hB1 rfl rfl) ?_
  refine X.opsEnd ?_
  refine X.block ?_
  refine X.seq ?_
  refine X.region ?_
  refine X.opP X.wN rfl rfl (X.eqI rfl rfl) (fun h16 => ?_) (fun h16 => ?_)
  · refine X.opw X.wN rfl (X.assign (v := .bool true) rfl) ?_
    refine X.opsEnd ?_
    refine X.condT rfl ?_
    refine X.regionD (fun q => ca q ≠ 0 ∨ cb q ≠ 0) 15 (by kernel_rfl) (by kernel_rfl) (fun w2 hk2 hz2 => ?_)
    refine X.dTake 0 rfl (by kernel_rfl) (by kernel_rfl) (by kernel_rfl) (X.dwN rfl) (fun w' hk' => X.move rfl) ?_
    refine X.dTake 1 rfl (by kernel_rfl) (by kernel_rfl) (by kernel_rfl) (X.dwN rfl) (fun w' hk' => X.nilCk rfl) ?_
    refine X.dTake 2 rfl (by kernel_rfl) (by kernel_rfl) (by kernel_rfl) (X.dwN rfl) (fun w' hk' => X.fldB (j := 0) Tryz.underlying29 rfl rfl Tryz.sizeOf26 rfl) ?_
    refine X.dTake 3 rfl (by kernel_rfl) (by kernel_rfl) (by kernel_rfl) (X.dwN rfl) (fun w' hk' => X.load1B Tryz.isAgg26 ((hP.keep (hk1.trans hk2)).ext hk' (by first | (intro hh; rcases hh with hh | hh; exact hh hp1; exact hh hp2) | (intro hh; exact hh hp1) | (intro hh; exact hh hp2) | (intro hh; rcases hh with hh | hh; exact absurd (h.D.lt _ hh) (by omega); exact absurd (h.X.lt _ hh) (by omega)) | (intro hh; exact absurd (h.D.lt _ hh) (by omega)) | (intro hh; exact absurd (h.X.lt _ hh) (by omega)) | (intros; omega))) rfl rfl) ?_
    refine X.dTake 4 rfl (by kernel_rfl) (by kernel_rfl) (by kernel_rfl) (X.dwN rfl) (fun w' hk' => X.fldB (j := 1) Tryz.underlying36 rfl rfl Tryz.sizeOf9 rfl) ?_
    refine X.dTake 5 rfl (by kernel_rfl) (by kernel_rfl) (by kernel_rfl) (X.dwN rfl) (fun w' hk' => X.load1B Tryz.isAgg9 ((hB1.keep hk2).ext hk' (by first | (intro hh; rcases hh with hh | hh; exact hh hp1; exact hh hp2) | (intro hh; exact hh hp1) | (intro hh; exact hh hp2) | (intro hh; rcases hh with hh | hh; exact absurd (h.D.lt _ hh) (by omega); exact absurd (h.X.lt _ hh) (by omega)) | (intro hh; exact absurd (h.D.lt _ hh) (by omega)) | (intro hh; exact absurd (h.X.lt _ hh) (by omega)) | (intros; omega))) rfl rfl) ?_
    refine X.dTake 7 rfl (by kernel_rfl) (by kernel_rfl) (by kernel_rfl) (X.dwN rfl) (fun w' hk' => X.move rfl) ?_
    refine X.dTake 8 rfl (by kernel_rfl) (by kernel_rfl) (by kernel_rfl) (X.dwN rfl) (fun w' hk' => X.nilCk rfl) ?_
    refine X.dTake 9 rfl (by kernel_rfl) (by kernel_rfl) (by kernel_rfl) (X.dwN rfl) (fun w' hk' => X.fldB (j := 1) Tryz.underlying29 rfl rfl Tryz.sizeOf27 rfl) ?_
    refine X.dTake 10 rfl (by kernel_rfl) (by kernel_rfl) (by kernel_rfl) (X.dwN rfl) (fun w' hk' => X.load1B Tryz.isAgg27 ((hP.keep (hk1.trans hk2)).ext hk' (by first | (intro hh; rcases hh with hh | hh; exact hh hp1; exact hh hp2) | (intro hh; exact hh hp1) | (intro hh; exact hh hp2) | (intro hh; rcases hh with hh | hh; exact absurd (h.D.lt _ hh) (by omega); exact absurd (h.X.lt _ hh) (by omega)) | (intro hh; exact absurd (h.D.lt _ hh) (by omega)) | (intro hh; exact absurd (h.X.lt _ hh) (by omega)) | (intros; omega))) rfl rfl) ?_
    refine X.dTake 11 rfl (by kernel_rfl) (by kernel_rfl) (by kernel_rfl) (X.dwN rfl) (fun w' hk' => X.fldB (j := 1) Tryz.underlying36 rfl rfl Tryz.sizeOf9 rfl) ?_
    refine X.dTake 12 rfl (by kernel_rfl) (by kernel_rfl) (by kernel_rfl) (X.dwN rfl) (fun w' hk' => X.load1B Tryz.isAgg9 ((hB1.keep hk2).ext hk' (by first | (intro hh; rcases hh with hh | hh; exact hh hp1; exact hh hp2) | (intro hh; exact hh hp1) | (intro hh; exact hh hp2) | (intro hh; rcases hh with hh | hh; exact absurd (h.D.lt _ hh) (by omega); exact absurd (h.X.lt _ hh) (by omega)) | (intro hh; exact absurd (h.D.lt _ hh) (by omega)) | (intro hh; exact absurd (h.X.lt _ hh) (by omega)) | (intros; omega))) rfl rfl) ?_
    refine X.dE (i := 6) (by kernel_rfl) rfl (X.dwN rfl) (X.callE (createT1_c (h.keep (hk1.trans hk2)) hm nm (by omega)) Tryz.call12 rfl rfl) (by rintro _ w3 ⟨rfl, ca', hMd, hx3⟩ _; exact hx3.mono (fun _ _ h => Or.inl h)) ?_
    rintro _ w3 ⟨rfl, ca', hMd, hx3⟩
    have hx3' := hx3.size
    refine X.dE (i := 13) (by kernel_rfl) rfl (X.dwN rfl) (X.callE (createT2_c nm hMd hm) Tryz.call17 rfl rfl) (by rintro _ w4 ⟨rfl, cb', hTw, hco, hx4⟩ _; exact hx4.mono (fun _ _ h => Or.inr h)) ?_
    rintro _ w4 ⟨rfl, cb', hTw, hco, hx4⟩
    have hx4' := hx4.size
    refine X.dTake 14 rfl (by kernel_rfl) (by kernel_rfl) (by kernel_rfl) (X.dwN rfl) (fun w' hk' => X.assign (v := .int .i64 _) rfl) ?_
    refine X.dStep (i := 15) (by kernel_rfl) rfl (X.dwN rfl) (X.assign (v := .int .i64 _) rfl) (fun h => absurd h (by decide)) ?_
    refine X.dEnd (by kernel_rfl) ?_
    refine X.inBlock ?_
    refine X.seq ?_
    refine X.region ?_
    refine X.opw X.wN rfl (X.move (v := .int .i64 _) rfl) ?_
    refine X.opw X.wN rfl (X.move (v := .int .i64 _) rfl) ?_
    refine X.opw X.wN rfl (X.move (v := .int .i64 _) rfl) ?_
    refine X.opw X.wN rfl (X.eqI rfl rfl) ?_
    refine X.opw X.wN rfl (X.assign (v := .int .i64 _) rfl) ?_
    refine X.opw X.wN rfl (X.assign (v := .bool _) rfl) ?_
    refine X.opsEnd ?_
    refine X.ret2 (v1 := (.int .i64 _)) (v2 := (.bool _)) Tryz.func7 Tryz.results7 rfl rfl ?_
    have hE : ∀ z : Int, (decide (z = z)) = true := fun z => decide_eq_true rfl
    have hz1 := hMd.st.2.size
    exact ⟨_, _, _, ca', cb', by rw [hE], hTw, fun q hq => ⟨hMd.st.1 q (by omega), hco q (by omega)⟩, (Ext.andThen (Ext.andThen (Ext.andThen (Ext.andThen (Ext.refl (fun q => ca q ≠ 0 ∨ cb q ≠ 0) _) hk1 (by intro q h1 h2; first | exact (h2 : False).elim | exact h2 | exact .inl h2 | exact .inr h2)) hk2 (by intro q h1 h2; first | exact (h2 : False).elim | exact h2 | exact .inl h2 | exact .inr h2)) hx3 (by intro q h1 h2; first | exact (h2 : False).elim | exact h2 | exact .inl h2 | exact .inr h2)) hx4 (by intro q h1 h2; first | exact (h2 : False).elim | exact h2 | exact .inl h2 | exact .inr h2))⟩
  · refine X.opw X.wN rfl (X.assign (v := .bool false) rfl) ?_
    refine X.opsEnd ?_
    refine X.condF rfl ?_
    refine X.seq ?_
    refine X.region ?_
    refine X.opP X.wN rfl rfl (X.eqI rfl rfl) (fun h32 => ?_) (fun h32 => ?_)
    · refine X.opw X.wN rfl (X.assign (v := .bool true) rfl) ?_
      refine X.opsEnd ?_
      refine X.condT rfl ?_
      refine X.regionD (fun q => ca q ≠ 0 ∨ cb q ≠ 0) 23 (by kernel_rfl) (by kernel_rfl) (fun w5 hk5 hz5 => ?_)
      refine X.dTake 0 rfl (by kernel_rfl) (by kernel_rfl) (by kernel_rfl) (X.dwN rfl) (fun w' hk' => X.move rfl) ?_
      refine X.dTake 1 rfl (by kernel_rfl) (by kernel_rfl) (by kernel_rfl) (X.dwN rfl) (fun w' hk' => X.nilCk rfl) ?_
      refine X.dTake 2 rfl (by kernel_rfl) (by kernel_rfl) (by kernel_rfl) (X.dwN rfl) (fun w' hk' => X.fldB (j := 0) Tryz.underlying29 rfl rfl Tryz.sizeOf26 rfl) ?_
      refine X.dTake 3 rfl (by kernel_rfl) (by kernel_rfl) (by kernel_rfl) (X.dwN rfl) (fun w' hk' => X.load1B Tryz.isAgg26 ((hP.keep (hk1.trans hk5)).ext hk' (by first | (intro hh; rcases hh with hh | hh; exact hh hp1; exact hh hp2) | (intro hh; exact hh hp1) | (intro hh; exact hh hp2) | (intro hh; rcases hh with hh | hh; exact absurd (h.D.lt _ hh) (by omega); exact absurd (h.X.lt _ hh) (by omega)) | (intro hh; exact absurd (h.D.lt _ hh) (by omega)) | (intro hh; exact absurd (h.X.lt _ hh) (by omega)) | (intros; omega))) rfl rfl) ?_
      refine X.dTake 4 rfl (by kernel_rfl) (by kernel_rfl) (by kernel_rfl) (X.dwN rfl) (fun w' hk' => X.fldB (j := 1) Tryz.underlying36 rfl rfl Tryz.sizeOf9 rfl) ?_
      refine X.dTake 5 rfl (by kernel_rfl) (by kernel_rfl) (by kernel_rfl) (X.dwN rfl) (fun w' hk' => X.load1B Tryz.isAgg9 ((hB1.keep hk5).ext hk' (by first | (intro hh; rcases hh with hh | hh; exact hh hp1; exact hh hp2) | (intro hh; exact hh hp1) | (intro hh; exact hh hp2) | (intro hh; rcases hh with hh | hh; exact absurd (h.D.lt _ hh) (by omega); exact absurd (h.X.lt _ hh) (by omega)) | (intro hh; exact absurd (h.D.lt _ hh) (by omega)) | (intro hh; exact absurd (h.X.lt _ hh) (by omega)) | (intros; omega))) rfl rfl) ?_
      refine X.dTake 6 rfl (by kernel_rfl) (by kernel_rfl) (by kernel_rfl) (X.dwN rfl) (fun w' hk' => X.fldB (j := 3) Tryz.underlying36 rfl rfl Tryz.sizeOf3 rfl) ?_
      refine X.dTake 7 rfl (by kernel_rfl) (by kernel_rfl) (by kernel_rfl) (X.dwN rfl) (fun w' hk' => X.load1B Tryz.isAgg3 ((hB1.keep hk5).ext hk' (by first | (intro hh; rcases hh with hh | hh; exact hh hp1; exact hh hp2) | (intro hh; exact hh hp1) | (intro hh; exact hh hp2) | (intro hh; rcases hh with hh | hh; exact absurd (h.D.lt _ hh) (by omega); exact absurd (h.X.lt _ hh) (by omega)) | (intro hh; exact absurd (h.D.lt _ hh) (by omega)) | (intro hh; exact absurd (h.X.lt _ hh) (by omega)) | (intros; omega))) rfl rfl) ?_
      refine X.dTake 8 rfl (by kernel_rfl) (by kernel_rfl) (by kernel_rfl) (X.dwN rfl) (fun w' hk' => X.fldB (j := 4) Tryz.underlying36 rfl rfl Tryz.sizeOf31 rfl) ?_
      refine X.dTake 9 rfl (by kernel_rfl) (by kernel_rfl) (by kernel_rfl) (X.dwN rfl) (fun w' hk' => X.load1B Tryz.isAgg31 ((hB1.keep hk5).ext hk' (by first | (intro hh; rcases hh with hh | hh; exact hh hp1; exact hh hp2) | (intro hh; exact hh hp1) | (intro hh; exact hh hp2) | (intro hh; rcases hh with hh | hh; exact absurd (h.D.lt _ hh) (by omega); exact absurd (h.X.lt _ hh) (by omega)) | (intro hh; exact absurd (h.D.lt _ hh) (by omega)) | (intro hh; exact absurd (h.X.lt _ hh) (by omega)) | (intros; omega))) rfl rfl) ?_
      refine X.dTake 11 rfl (by kernel_rfl) (by kernel_rfl) (by kernel_rfl) (X.dwN rfl) (fun w' hk' => X.move rfl) ?_
      refine X.dTake 12 rfl (by kernel_rfl) (by kernel_rfl) (by kernel_rfl) (X.dwN rfl) (fun w' hk' => X.nilCk rfl) ?_
      refine X.dTake 13 rfl (by kernel_rfl) (by kernel_rfl) (by kernel_rfl) (X.dwN rfl) (fun w' hk' => X.fldB (j := 1) Tryz.underlying29 rfl rfl Tryz.sizeOf27 rfl) ?_
      refine X.dTake 14 rfl (by kernel_rfl) (by kernel_rfl) (by kernel_rfl) (X.dwN rfl) (fun w' hk' => X.load1B Tryz.isAgg27 ((hP.keep (hk1.trans hk5)).ext hk' (by first | (intro hh; rcases hh with hh | hh; exact hh hp1; exact hh hp2) | (intro hh; exact hh hp1) | (intro hh; exact hh hp2) | (intro hh; rcases hh with hh | hh; exact absurd (h.D.lt _ hh) (by omega); exact absurd (h.X.lt _ hh) (by omega)) | (intro hh; exact absurd (h.D.lt _ hh) (by omega)) | (intro hh; exact absurd (h.X.lt _ hh) (by omega)) | (intros; omega))) rfl rfl) ?_
      refine X.dTake 15 rfl (by kernel_rfl) (by kernel_rfl) (by kernel_rfl) (X.dwN rfl) (fun w' hk' => X.fldB (j := 1) Tryz.underlying36 rfl rfl Tryz.sizeOf9 rfl) ?_
      refine X.dTake 16 rfl (by kernel_rfl) (by kernel_rfl) (by kernel_rfl) (X.dwN rfl) (fun w' hk' => X.load1B Tryz.isAgg9 ((hB1.keep hk5).ext hk' (by first | (intro hh; rcases hh with hh | hh; exact hh hp1; exact hh hp2) | (intro hh; exact hh hp1) | (intro hh; exact hh hp2) | (intro hh; rcases hh with hh | hh; exact absurd (h.D.lt _ hh) (by omega); exact absurd (h.X.lt _ hh) (by omega)) | (intro hh; exact absurd (h.D.lt _ hh) (by omega)) | (intro hh; exact absurd (h.X.lt _ hh) (by omega)) | (intros; omega))) rfl rfl) ?_
      refine X.dTake 17 rfl (by kernel_rfl) (by kernel_rfl) (by kernel_rfl) (X.dwN rfl) (fun w' hk' => X.fldB (j := 3) Tryz.underlying36 rfl rfl Tryz.sizeOf3 rfl) ?_
      refine X.dTake 18 rfl (by kernel_rfl) (by kernel_rfl) (by kernel_rfl) (X.dwN rfl) (fun w' hk' => X.load1B Tryz.isAgg3 ((hB1.keep hk5).ext hk' (by first | (intro hh; rcases hh with hh | hh; exact hh hp1; exact hh hp2) | (intro hh; exact hh hp1) | (intro hh; exact hh hp2) | (intro hh; rcases hh with hh | hh; exact absurd (h.D.lt _ hh) (by omega); exact absurd (h.X.lt _ hh) (by omega)) | (intro hh; exact absurd (h.D.lt _ hh) (by omega)) | (intro hh; exact absurd (h.X.lt _ hh) (by omega)) | (intros; omega))) rfl rfl) ?_
      refine X.dTake 19 rfl (by kernel_rfl) (by kernel_rfl) (by kernel_rfl) (X.dwN rfl) (fun w' hk' => X.fldB (j := 4) Tryz.underlying36 rfl rfl Tryz.sizeOf31 rfl) ?_
      refine X.dTake 20 rfl (by kernel_rfl) (by kernel_rfl) (by kernel_rfl) (X.dwN rfl) (fun w' hk' => X.load1B Tryz.isAgg31 ((hB1.keep hk5).ext hk' (by first | (intro hh; rcases hh with hh | hh; exact hh hp1; exact hh hp2) | (intro hh; exact hh hp1) | (intro hh; exact hh hp2) | (intro hh; rcases hh with hh | hh; exact absurd (h.D.lt _ hh) (by omega); exact absurd (h.X.lt _ hh) (by omega)) | (intro hh; exact absurd (h.D.lt _ hh) (by omega)) | (intro hh; exact absurd (h.X.lt _ hh) (by omega)) | (intros; omega))) rfl rfl) ?_
      refine X.dE (i := 10) (by kernel_rfl) rfl (X.dwN rfl) (X.callE (writeT1_c (h.keep (hk1.trans hk5)) hm nm y4 xs hy4 (hb.ext (Ext.andThen (Ext.andThen (Ext.refl (fun q => ca q ≠ 0 ∨ cb q ≠ 0) _) hk1 (by intro q h1 h2; first | exact (h2 : False).elim | exact h2 | exact .inl h2 | exact .inr h2)) hk5 (by intro q h1 h2; first | exact (h2 : False).elim | exact h2 | exact .inl h2 | exact .inr h2)) (by intro q _ g2 g3; have := h.lo q g2; exact g3.elim (fun e => e this.1) (fun e => e this.2))) (by omega)) Tryz.call13 rfl rfl) (by rintro _ w6 ⟨rfl, ca', hMd, hx6⟩ _; exact hx6.mono (fun _ _ h => Or.inl h)) ?_
      rintro _ w6 ⟨rfl, ca', hMd, hx6⟩
      have hx6' := hx6.size
      refine X.dE (i := 21) (by kernel_rfl) rfl (X.dwN rfl) (X.callE (writeT2_c nm y4 xs hMd hm hy4 (hb.ext (Ext.andThen (Ext.andThen (Ext.andThen (Ext.refl (fun q => ca q ≠ 0 ∨ cb q ≠ 0) _) hk1 (by intro q h1 h2; first | exact (h2 : False).elim | exact h2 | exact .inl h2 | exact .inr h2)) hk5 (by intro q h1 h2; first | exact (h2 : False).elim | exact h2 | exact .inl h2 | exact .inr h2)) hx6 (by intro q h1 h2; first | exact (h2 : False).elim | exact h2 | exact .inl h2 | exact .inr h2)) (by intro q _ g2 g3; have := h.lo q g2; exact g3.elim (fun e => e this.1) (fun e => e this.2))) (by omega)) Tryz.call18 rfl rfl) (by rintro _ w7 ⟨rfl, cb', hTw, hco, hx7⟩ _; exact hx7.mono (fun _ _ h => Or.inr h)) ?_
      rintro _ w7 ⟨rfl, cb', hTw, hco, hx7⟩
      have hx7' := hx7.size
      refine X.dTake 22 rfl (by kernel_rfl) (by kernel_rfl) (by kernel_rfl) (X.dwN rfl) (fun w' hk' => X.assign (v := .int .i64 _) rfl) ?_
      refine X.dStep (i := 23) (by kernel_rfl) rfl (X.dwN rfl) (X.assign (v := .int .i64 _) rfl) (fun h => absurd h (by decide)) ?_
      refine X.dEnd (by kernel_rfl) ?_
      refine X.inBlock ?_
      refine X.seq ?_
      refine X.region ?_
      refine X.opw X.wN rfl (X.move (v := .int .i64 _) rfl) ?_
      refine X.opw X.wN rfl (X.move (v := .int .i64 _) rfl) ?_
      refine X.opw X.wN rfl (X.move (v := .int .i64 _) rfl) ?_
      refine X.opw X.wN rfl (X.eqI rfl rfl) ?_
      refine X.opw X.wN rfl (X.assign (v := .int .i64 _) rfl) ?_
      refine X.opw X.wN rfl (X.assign (v := .bool _) rfl) ?_
      refine X.opsEnd ?_
      refine X.ret2 (v1 := (.int .i64 _)) (v2 := (.bool _)) Tryz.func7 Tryz.results7 rfl rfl ?_
      have hE : ∀ z : Int, (decide (z = z)) = true := fun z => decide_eq_true rfl
      have hz1 := hMd.st.2.size
      exact ⟨_, _, _, ca', cb', by rw [hE], hTw, fun q hq => ⟨hMd.st.1 q (by omega), hco q (by omega)⟩, (Ext.andThen (Ext.andThen (Ext.andThen (Ext.andThen (Ext.refl (fun q => ca q ≠ 0 ∨ cb q ≠ 0) _) hk1 (by intro q h1 h2; first | exact (h2 : False).elim | exact h2 | exact .inl h2 | exact .inr h2)) hk5 (by intro q h1 h2; first | exact (h2 : False).elim | exact h2 | exact .inl h2 | exact .inr h2)) hx6 (by intro q h1 h2; first | exact (h2 : False).elim | exact h2 | exact .inl h2 | exact .inr h2)) hx7 (by intro q h1 h2; first | exact (h2 : False).elim | exact h2 | exact .inl h2 | exact .inr h2))⟩
    · refine X.opw X.wN rfl (X.assign (v := .bool false) rfl) ?_
      refine X.opsEnd ?_
      refine X.condF rfl ?_
      refine X.seq ?_
      refine X.region ?_
      refine X.opP X.wN rfl rfl (X.eqI rfl rfl) (fun h56 => ?_) (fun h56 => ?_)
      · refine X.opw X.wN rfl (X.assign (v := .bool true) rfl) ?_
        refine X.opsEnd ?_
        refine X.condT rfl ?_
        refine X.regionD (fun q => ca q ≠ 0 ∨ cb q ≠ 0) 15 (by kernel_rfl) (by kernel_rfl) (fun w8 hk8 hz8 => ?_)
        refine X.dTake 0 rfl (by kernel_rfl) (by kernel_rfl) (by kernel_rfl) (X.dwN rfl) (fun w' hk' => X.move rfl) ?_
        refine X.dTake 1 rfl (by kernel_rfl) (by kernel_rfl) (by kernel_rfl) (X.dwN rfl) (fun w' hk' => X.nilCk rfl) ?_
        refine X.dTake 2 rfl (by kernel_rfl) (by kernel_rfl) (by kernel_rfl) (X.dwN rfl) (fun w' hk' => X.fldB (j := 0) Tryz.underlying29 rfl rfl Tryz.sizeOf26 rfl) ?_
        refine X.dTake 3 rfl (by kernel_rfl) (by kernel_rfl) (by kernel_rfl) (X.dwN rfl) (fun w' hk' => X.load1B Tryz.isAgg26 ((hP.keep (hk1.trans hk8)).ext hk' (by first | (intro hh; rcases hh with hh | hh; exact hh hp1; exact hh hp2) | (intro hh; exact hh hp1) | (intro hh; exact hh hp2) | (intro hh; rcases hh with hh | hh; exact absurd (h.D.lt _ hh) (by omega); exact absurd (h.X.lt _ hh) (by omega)) | (intro hh; exact absurd (h.D.lt _ hh) (by omega)) | (intro hh; exact absurd (h.X.lt _ hh) (by omega)) | (intros; omega))) rfl rfl) ?_
        refine X.dTake 4 rfl (by kernel_rfl) (by kernel_rfl) (by kernel_rfl) (X.dwN rfl) (fun w' hk' => X.fldB (j := 1) Tryz.underlying36 rfl rfl Tryz.sizeOf9 rfl) ?_
        refine X.dTake 5 rfl (by kernel_rfl) (by kernel_rfl) (by kernel_rfl) (X.dwN rfl) (fun w' hk' => X.load1B Tryz.isAgg9 ((hB1.keep hk8).ext hk' (by first | (intro hh; rcases hh with hh | hh; exact hh hp1; exact hh hp2) | (intro hh; exact hh hp1) | (intro hh; exact hh hp2) | (intro hh; rcases hh with hh | hh; exact absurd (h.D.lt _ hh) (by omega); exact absurd (h.X.lt _ hh) (by omega)) | (intro hh; exact absurd (h.D.lt _ hh) (by omega)) | (intro hh; exact absurd (h.X.lt _ hh) (by omega)) | (intros; omega))) rfl rfl) ?_
        refine X.dTake 7 rfl (by kernel_rfl) (by kernel_rfl) (by kernel_rfl) (X.dwN rfl) (fun w' hk' => X.move rfl) ?_
        refine X.dTake 8 rfl (by kernel_rfl) (by kernel_rfl) (by kernel_rfl) (X.dwN rfl) (fun w' hk' => X.nilCk rfl) ?_
        refine X.dTake 9 rfl (by kernel_rfl) (by kernel_rfl) (by kernel_rfl) (X.dwN rfl) (fun w' hk' => X.fldB (j := 1) Tryz.underlying29 rfl rfl Tryz.sizeOf27 rfl) ?_
        refine X.dTake 10 rfl (by kernel_rfl) (by kernel_rfl) (by kernel_rfl) (X.dwN rfl) (fun w' hk' => X.load1B Tryz.isAgg27 ((hP.keep (hk1.trans hk8)).ext hk' (by first | (intro hh; rcases hh with hh | hh; exact hh hp1; exact hh hp2) | (intro hh; exact hh hp1) | (intro hh; exact hh hp2) | (intro hh; rcases hh with hh | hh; exact absurd (h.D.lt _ hh) (by omega); exact absurd (h.X.lt _ hh) (by omega)) | (intro hh; exact absurd (h.D.lt _ hh) (by omega)) | (intro hh; exact absurd (h.X.lt _ hh) (by omega)) | (intros; omega))) rfl rfl) ?_
        refine X.dTake 11 rfl (by kernel_rfl) (by kernel_rfl) (by kernel_rfl) (X.dwN rfl) (fun w' hk' => X.fldB (j := 1) Tryz.underlying36 rfl rfl Tryz.sizeOf9 rfl) ?_
        refine X.dTake 12 rfl (by kernel_rfl) (by kernel_rfl) (by kernel_rfl) (X.dwN rfl) (fun w' hk' => X.load1B Tryz.isAgg9 ((hB1.keep hk8).ext hk' (by first | (intro hh; rcases hh with hh | hh; exact hh hp1; exact hh hp2) | (intro hh; exact hh hp1) | (intro hh; exact hh hp2) | (intro hh; rcases hh with hh | hh; exact absurd (h.D.lt _ hh) (by omega); exact absurd (h.X.lt _ hh) (by omega)) | (intro hh; exact absurd (h.D.lt _ hh) (by omega)) | (intro hh; exact absurd (h.X.lt _ hh) (by omega)) | (intros; omega))) rfl rfl) ?_
        refine X.dE (i := 6) (by kernel_rfl) rfl (X.dwN rfl) (X.callE (syncT1_c (h.keep (hk1.trans hk8)) hm nm (by omega)) Tryz.call19 rfl rfl) (by rintro _ w9 ⟨rfl, ca', hMd, hx9⟩ _; exact hx9.mono (fun _ _ h => Or.inl h)) ?_
        rintro _ w9 ⟨rfl, ca', hMd, hx9⟩
        have hx9' := hx9.size
        refine X.dE (i := 13) (by kernel_rfl) rfl (X.dwN rfl) (X.callE (syncT2_c nm hMd hm) Tryz.call20 rfl rfl) (by rintro _ w10 ⟨rfl, cb', hTw, hco, hx10⟩ _; exact hx10.mono (fun _ _ h => Or.inr h)) ?_
        rintro _ w10 ⟨rfl, cb', hTw, hco, hx10⟩
        have hx10' := hx10.size
        refine X.dTake 14 rfl (by kernel_rfl) (by kernel_rfl) (by kernel_rfl) (X.dwN rfl) (fun w' hk' => X.assign (v := .int .i64 _) rfl) ?_
        refine X.dStep (i := 15) (by kernel_rfl) rfl (X.dwN rfl) (X.assign (v := .int .i64 _) rfl) (fun h => absurd h (by decide)) ?_
        refine X.dEnd (by kernel_rfl) ?_
        refine X.inBlock ?_
        refine X.seq ?_
        refine X.region ?_
        refine X.opw X.wN rfl (X.move (v := .int .i64 _) rfl) ?_
        refine X.opw X.wN rfl (X.move (v := .int .i64 _) rfl) ?_
        refine X.opw X.wN rfl (X.move (v := .int .i64 _) rfl) ?_
        refine X.opw X.wN rfl (X.eqI rfl rfl) ?_
        refine X.opw X.wN rfl (X.assign (v := .int .i64 _) rfl) ?_
        refine X.opw X.wN rfl (X.assign (v := .bool _) rfl) ?_
        refine X.opsEnd ?_
        refine X.ret2 (v1 := (.int .i64 _)) (v2 := (.bool _)) Tryz.func7 Tryz.results7 rfl rfl ?_
        have hE : ∀ z : Int, (decide (z = z)) = true := fun z => decide_eq_true rfl
        have hz1 := hMd.st.2.size
        exact ⟨_, _, _, ca', cb', by rw [hE], hTw, fun q hq => ⟨hMd.st.1 q (by omega), hco q (by omega)⟩, (Ext.andThen (Ext.andThen (Ext.andThen (Ext.andThen (Ext.refl (fun q => ca q ≠ 0 ∨ cb q ≠ 0) _) hk1 (by intro q h1 h2; first | exact (h2 : False).elim | exact h2 | exact .inl h2 | exact .inr h2)) hk8 (by intro q h1 h2; first | exact (h2 : False).elim | exact h2 | exact .inl h2 | exact .inr h2)) hx9 (by intro q h1 h2; first | exact (h2 : False).elim | exact h2 | exact .inl h2 | exact .inr h2)) hx10 (by intro q h1 h2; first | exact (h2 : False).elim | exact h2 | exact .inl h2 | exact .inr h2))⟩
      · refine X.opw X.wN rfl (X.assign (v := .bool false) rfl) ?_
        refine X.opsEnd ?_
        refine X.condF rfl ?_
        refine X.seq ?_
        refine X.region ?_
        refine X.opP X.wN rfl rfl (X.eqI rfl rfl) (fun h72 => ?_) (fun h72 => ?_)
        · refine X.opw X.wN rfl (X.assign (v := .bool true) rfl) ?_
          refine X.opsEnd ?_
          refine X.condT rfl ?_
          refine X.regionD (fun q => ca q ≠ 0 ∨ cb q ≠ 0) 19 (by kernel_rfl) (by kernel_rfl) (fun w11 hk11 hz11 => ?_)
          refine X.dTake 0 rfl (by kernel_rfl) (by kernel_rfl) (by kernel_rfl) (X.dwN rfl) (fun w' hk' => X.move rfl) ?_
          refine X.dTake 1 rfl (by kernel_rfl) (by kernel_rfl) (by kernel_rfl) (X.dwN rfl) (fun w' hk' => X.nilCk rfl) ?_
          refine X.dTake 2 rfl (by kernel_rfl) (by kernel_rfl) (by kernel_rfl) (X.dwN rfl) (fun w' hk' => X.fldB (j := 0) Tryz.underlying29 rfl rfl Tryz.sizeOf26 rfl) ?_
          refine X.dTake 3 rfl (by kernel_rfl) (by kernel_rfl) (by kernel_rfl) (X.dwN rfl) (fun w' hk' => X.load1B Tryz.isAgg26 ((hP.keep (hk1.trans hk11)).ext hk' (by first | (intro hh; rcases hh with hh | hh; exact hh hp1; exact hh hp2) | (intro hh; exact hh hp1) | (intro hh; exact hh hp2) | (intro hh; rcases hh with hh | hh; exact absurd (h.D.lt _ hh) (by omega); exact absurd (h.X.lt _ hh) (by omega)) | (intro hh; exact absurd (h.D.lt _ hh) (by omega)) | (intro hh; exact absurd (h.X.lt _ hh) (by omega)) | (intros; omega))) rfl rfl) ?_
          refine X.dTake 4 rfl (by kernel_rfl) (by kernel_rfl) (by kernel_rfl) (X.dwN rfl) (fun w' hk' => X.fldB (j := 1) Tryz.underlying36 rfl rfl Tryz.sizeOf9 rfl) ?_
          refine X.dTake 5 rfl (by kernel_rfl) (by kernel_rfl) (by kernel_rfl) (X.dwN rfl) (fun w' hk' => X.load1B Tryz.isAgg9 ((hB1.keep hk11).ext hk' (by first | (intro hh; rcases hh with hh | hh; exact hh hp1; exact hh hp2) | (intro hh; exact hh hp1) | (intro hh; exact hh hp2) | (intro hh; rcases hh with hh | hh; exact absurd (h.D.lt _ hh) (by omega); exact absurd (h.X.lt _ hh) (by omega)) | (intro hh; exact absurd (h.D.lt _ hh) (by omega)) | (intro hh; exact absurd (h.X.lt _ hh) (by omega)) | (intros; omega))) rfl rfl) ?_
          refine X.dTake 6 rfl (by kernel_rfl) (by kernel_rfl) (by kernel_rfl) (X.dwN rfl) (fun w' hk' => X.fldB (j := 2) Tryz.underlying36 rfl rfl Tryz.sizeOf9 rfl) ?_
          refine X.dTake 7 rfl (by kernel_rfl) (by kernel_rfl) (by kernel_rfl) (X.dwN rfl) (fun w' hk' => X.load1B Tryz.isAgg9 ((hB1.keep hk11).ext hk' (by first | (intro hh; rcases hh with hh | hh; exact hh hp1; exact hh hp2) | (intro hh; exact hh hp1) | (intro hh; exact hh hp2) | (intro hh; rcases hh with hh | hh; exact absurd (h.D.lt _ hh) (by omega); exact absurd (h.X.lt _ hh) (by omega)) | (intro hh; exact absurd (h.D.lt _ hh) (by omega)) | (intro hh; exact absurd (h.X.lt _ hh) (by omega)) | (intros; omega))) rfl rfl) ?_
          refine X.dTake 9 rfl (by kernel_rfl) (by kernel_rfl) (by kernel_rfl) (X.dwN rfl) (fun w' hk' => X.move rfl) ?_
          refine X.dTake 10 rfl (by kernel_rfl) (by kernel_rfl) (by kernel_rfl) (X.dwN rfl) (fun w' hk' => X.nilCk rfl) ?_
          refine X.dTake 11 rfl (by kernel_rfl) (by kernel_rfl) (by kernel_rfl) (X.dwN rfl) (fun w' hk' => X.fldB (j := 1) Tryz.underlying29 rfl rfl Tryz.sizeOf27 rfl) ?_
          refine X.dTake 12 rfl (by kernel_rfl) (by kernel_rfl) (by kernel_rfl) (X.dwN rfl) (fun w' hk' => X.load1B Tryz.isAgg27 ((hP.keep (hk1.trans hk11)).ext hk' (by first | (intro hh; rcases hh with hh | hh; exact hh hp1; exact hh hp2) | (intro hh; exact hh hp1) | (intro hh; exact hh hp2) | (intro hh; rcases hh with hh | hh; exact absurd (h.D.lt _ hh) (by omega); exact absurd (h.X.lt _ hh) (by omega)) | (intro hh; exact absurd (h.D.lt _ hh) (by omega)) | (intro hh; exact absurd (h.X.lt _ hh) (by omega)) | (intros; omega))) rfl rfl) ?_
          refine X.dTake 13 rfl (by kernel_rfl) (by kernel_rfl) (by kernel_rfl) (X.dwN rfl) (fun w' hk' => X.fldB (j := 1) Tryz.underlying36 rfl rfl Tryz.sizeOf9 rfl) ?_
          refine X.dTake 14 rfl (by kernel_rfl) (by kernel_rfl) (by kernel_rfl) (X.dwN rfl) (fun w' hk' => X.load1B Tryz.isAgg9 ((hB1.keep hk11).ext hk' (by first | (intro hh; rcases hh with hh | hh; exact hh hp1; exact hh hp2) | (intro hh; exact hh hp1) | (intro hh; exact hh hp2) | (intro hh; rcases hh with hh | hh; exact absurd (h.D.lt _ hh) (by omega); exact absurd (h.X.lt _ hh) (by omega)) | (intro hh; exact absurd (h.D.lt _ hh) (by omega)) | (intro hh; exact absurd (h.X.lt _ hh) (by omega)) | (intros; omega))) rfl rfl) ?_
          refine X.dTake 15 rfl (by kernel_rfl) (by kernel_rfl) (by kernel_rfl) (X.dwN rfl) (fun w' hk' => X.fldB (j := 2) Tryz.underlying36 rfl rfl Tryz.sizeOf9 rfl) ?_
          refine X.dTake 16 rfl (by kernel_rfl) (by kernel_rfl) (by kernel_rfl) (X.dwN rfl) (fun w' hk' => X.load1B Tryz.isAgg9 ((hB1.keep hk11).ext hk' (by first | (intro hh; rcases hh with hh | hh; exact hh hp1; exact hh hp2) | (intro hh; exact hh hp1) | (intro hh; exact hh hp2) | (intro hh; rcases hh with hh | hh; exact absurd (h.D.lt _ hh) (by omega); exact absurd (h.X.lt _ hh) (by omega)) | (intro hh; exact absurd (h.D.lt _ hh) (by omega)) | (intro hh; exact absurd (h.X.lt _ hh) (by omega)) | (intros; omega))) rfl rfl) ?_
          refine X.dE (i := 8) (by kernel_rfl) rfl (X.dwN rfl) (X.callE (renameT1_c (h.keep (hk1.trans hk11)) hm nm to (by omega)) Tryz.call21 rfl rfl) (by rintro _ w12 ⟨rfl, ca', hMd, hx12⟩ _; exact hx12.mono (fun _ _ h => Or.inl h)) ?_
          rintro _ w12 ⟨rfl, ca', hMd, hx12⟩
          have hx12' := hx12.size
          refine X.dE (i := 17) (by kernel_rfl) rfl (X.dwN rfl) (X.callE (renameT2_c nm to hMd hm) Tryz.call22 rfl rfl) (by rintro _ w13 ⟨rfl, cb', hTw, hco, hx13⟩ _; exact hx13.mono (fun _ _ h => Or.inr h)) ?_
          rintro _ w13 ⟨rfl, cb', hTw, hco, hx13⟩
          have hx13' := hx13.size
          refine X.dTake 18 rfl (by kernel_rfl) (by kernel_rfl) (by kernel_rfl) (X.dwN rfl) (fun w' hk' => X.assign (v := .int .i64 _) rfl) ?_
          refine X.dStep (i := 19) (by kernel_rfl) rfl (X.dwN rfl) (X.assign (v := .int .i64 _) rfl) (fun h => absurd h (by decide)) ?_
          refine X.dEnd (by kernel_rfl) ?_
          refine X.inBlock ?_
          refine X.seq ?_
          refine X.region ?_
          refine X.opw X.wN rfl (X.move (v := .int .i64 _) rfl) ?_
          refine X.opw X.wN rfl (X.move (v := .int .i64 _) rfl) ?_
          refine X.opw X.wN rfl (X.move (v := .int .i64 _) rfl) ?_
          refine X.opw X.wN rfl (X.eqI rfl rfl) ?_
          refine X.opw X.wN rfl (X.assign (v := .int .i64 _) rfl) ?_
          refine X.opw X.wN rfl (X.assign (v := .bool _) rfl) ?_
          refine X.opsEnd ?_
          refine X.ret2 (v1 := (.int .i64 _)) (v2 := (.bool _)) Tryz.func7 Tryz.results7 rfl rfl ?_
          have hE : ∀ z : Int, (decide (z = z)) = true := fun z => decide_eq_true rfl
          have hz1 := hMd.st.2.size
          exact ⟨_, _, _, ca', cb', by rw [hE], hTw, fun q hq => ⟨hMd.st.1 q (by omega), hco q (by omega)⟩, (Ext.andThen (Ext.andThen (Ext.andThen (Ext.andThen (Ext.refl (fun q => ca q ≠ 0 ∨ cb q ≠ 0) _) hk1 (by intro q h1 h2; first | exact (h2 : False).elim | exact h2 | exact .inl h2 | exact .inr h2)) hk11 (by intro q h1 h2; first | exact (h2 : False).elim | exact h2 | exact .inl h2 | exact .inr h2)) hx12 (by intro q h1 h2; first | exact (h2 : False).elim | exact h2 | exact .inl h2 | exact .inr h2)) hx13 (by intro q h1 h2; first | exact (h2 : False).elim | exact h2 | exact .inl h2 | exact .inr h2))⟩
        · refine X.opw X.wN rfl (X.assign (v := .bool false) rfl) ?_
          refine X.opsEnd ?_
          refine X.condF rfl ?_
          refine X.seq ?_
          refine X.region ?_
          refine X.opP X.wN rfl rfl (X.eqI rfl rfl) (fun h92 => ?_) (fun h92 => ?_)
          · refine X.opw X.wN rfl (X.assign (v := .bool true) rfl) ?_
            refine X.opsEnd ?_
            refine X.condT rfl ?_
            refine X.regionD (fun q => ca q ≠ 0 ∨ cb q ≠ 0) 15 (by kernel_rfl) (by kernel_rfl) (fun w14 hk14 hz14 => ?_)
            refine X.dTake 0 rfl (by kernel_rfl) (by kernel_rfl) (by kernel_rfl) (X.dwN rfl) (fun w' hk' => X.move rfl) ?_
            refine X.dTake 1 rfl (by kernel_rfl) (by kernel_rfl) (by kernel_rfl) (X.dwN rfl) (fun w' hk' => X.nilCk rfl) ?_
            refine X.dTake 2 rfl (by kernel_rfl) (by kernel_rfl) (by kernel_rfl) (X.dwN rfl) (fun w' hk' => X.fldB (j := 0) Tryz.underlying29 rfl rfl Tryz.sizeOf26 rfl) ?_
            refine X.dTake 3 rfl (by kernel_rfl) (by kernel_rfl) (by kernel_rfl) (X.dwN rfl) (fun w' hk' => X.load1B Tryz.isAgg26 ((hP.keep (hk1.trans hk14)).ext hk' (by first | (intro hh; rcases hh with hh | hh; exact hh hp1; exact hh hp2) | (intro hh; exact hh hp1) | (intro hh; exact hh hp2) | (intro hh; rcases hh with hh | hh; exact absurd (h.D.lt _ hh) (by omega); exact absurd (h.X.lt _ hh) (by omega)) | (intro hh; exact absurd (h.D.lt _ hh) (by omega)) | (intro hh; exact absurd (h.X.lt _ hh) (by omega)) | (intros; omega))) rfl rfl) ?_
            refine X.dTake 4 rfl (by kernel_rfl) (by kernel_rfl) (by kernel_rfl) (X.dwN rfl) (fun w' hk' => X.fldB (j := 1) Tryz.underlying36 rfl rfl Tryz.sizeOf9 rfl) ?_
            refine X.dTake 5 rfl (by kernel_rfl) (by kernel_rfl) (by kernel_rfl) (X.dwN rfl) (fun w' hk' => X.load1B Tryz.isAgg9 ((hB1.keep hk14).ext hk' (by first | (intro hh; rcases hh with hh | hh; exact hh hp1; exact hh hp2) | (intro hh; exact hh hp1) | (intro hh; exact hh hp2) | (intro hh; rcases hh with hh | hh; exact absurd (h.D.lt _ hh) (by omega); exact absurd (h.X.lt _ hh) (by omega)) | (intro hh; exact absurd (h.D.lt _ hh) (by omega)) | (intro hh; exact absurd (h.X.lt _ hh) (by omega)) | (intros; omega))) rfl rfl) ?_
            refine X.dTake 7 rfl (by kernel_rfl) (by kernel_rfl) (by kernel_rfl) (X.dwN rfl) (fun w' hk' => X.move rfl) ?_
            refine X.dTake 8 rfl (by kernel_rfl) (by kernel_rfl) (by kernel_rfl) (X.dwN rfl) (fun w' hk' => X.nilCk rfl) ?_
            refine X.dTake 9 rfl (by kernel_rfl) (by kernel_rfl) (by kernel_rfl) (X.dwN rfl) (fun w' hk' => X.fldB (j := 1) Tryz.underlying29 rfl rfl Tryz.sizeOf27 rfl) ?_
            refine X.dTake 10 rfl (by kernel_rfl) (by kernel_rfl) (by kernel_rfl) (X.dwN rfl) (fun w' hk' => X.load1B Tryz.isAgg27 ((hP.keep (hk1.trans hk14)).ext hk' (by first | (intro hh; rcases hh with hh | hh; exact hh hp1; exact hh hp2) | (intro hh; exact hh hp1) | (intro hh; exact hh hp2) | (intro hh; rcases hh with hh | hh; exact absurd (h.D.lt _ hh) (by omega); exact absurd (h.X.lt _ hh) (by omega)) | (intro hh; exact absurd (h.D.lt _ hh) (by omega)) | (intro hh; exact absurd (h.X.lt _ hh) (by omega)) | (intros; omega))) rfl rfl) ?_
            refine X.dTake 11 rfl (by kernel_rfl) (by kernel_rfl) (by kernel_rfl) (X.dwN rfl) (fun w' hk' => X.fldB (j := 1) Tryz.underlying36 rfl rfl Tryz.sizeOf9 rfl) ?_
            refine X.dTake 12 rfl (by kernel_rfl) (by kernel_rfl) (by kernel_rfl) (X.dwN rfl) (fun w' hk' => X.load1B Tryz.isAgg9 ((hB1.keep hk14).ext hk' (by first | (intro hh; rcases hh with hh | hh; exact hh hp1; exact hh hp2) | (intro hh; exact hh hp1) | (intro hh; exact hh hp2) | (intro hh; rcases hh with hh | hh; exact absurd (h.D.lt _ hh) (by omega); exact absurd (h.X.lt _ hh) (by omega)) | (intro hh; exact absurd (h.D.lt _ hh) (by omega)) | (intro hh; exact absurd (h.X.lt _ hh) (by omega)) | (intros; omega))) rfl rfl) ?_
            refine X.dE (i := 6) (by kernel_rfl) rfl (X.dwN rfl) (X.callE (deleteT1_c (h.keep (hk1.trans hk14)) hm nm (by omega)) Tryz.call23 rfl rfl) (by rintro _ w15 ⟨rfl, ca', hMd, hx15⟩ _; exact hx15.mono (fun _ _ h => Or.inl h)) ?_
            rintro _ w15 ⟨rfl, ca', hMd, hx15⟩
            have hx15' := hx15.size
            refine X.dE (i := 13) (by kernel_rfl) rfl (X.dwN rfl) (X.callE (deleteT2_c nm hMd hm) Tryz.call24 rfl rfl) (by rintro _ w16 ⟨rfl, cb', hTw, hco, hx16⟩ _; exact hx16.mono (fun _ _ h => Or.inr h)) ?_
            rintro _ w16 ⟨rfl, cb', hTw, hco, hx16⟩
            have hx16' := hx16.size
            refine X.dTake 14 rfl (by kernel_rfl) (by kernel_rfl) (by kernel_rfl) (X.dwN rfl) (fun w' hk' => X.assign (v := .int .i64 _) rfl) ?_
            refine X.dStep (i := 15) (by kernel_rfl) rfl (X.dwN rfl) (X.assign (v := .int .i64 _) rfl) (fun h => absurd h (by decide)) ?_
            refine X.dEnd (by kernel_rfl) ?_
            refine X.inBlock ?_
            refine X.seq ?_
            refine X.region ?_
            refine X.opw X.wN rfl (X.move (v := .int .i64 _) rfl) ?_
            refine X.opw X.wN rfl (X.move (v := .int .i64 _) rfl) ?_
            refine X.opw X.wN rfl (X.move (v := .int .i64 _) rfl) ?_
            refine X.opw X.wN rfl (X.eqI rfl rfl) ?_
            refine X.opw X.wN rfl (X.assign (v := .int .i64 _) rfl) ?_
            refine X.opw X.wN rfl (X.assign (v := .bool _) rfl) ?_
            refine X.opsEnd ?_
            refine X.ret2 (v1 := (.int .i64 _)) (v2 := (.bool _)) Tryz.func7 Tryz.results7 rfl rfl ?_
            have hE : ∀ z : Int, (decide (z = z)) = true := fun z => decide_eq_true rfl
            have hz1 := hMd.st.2.size
            exact ⟨_, _, _, ca', cb', by rw [hE], hTw, fun q hq => ⟨hMd.st.1 q (by omega), hco q (by omega)⟩, (Ext.andThen (Ext.andThen (Ext.andThen (Ext.andThen (Ext.refl (fun q => ca q ≠ 0 ∨ cb q ≠ 0) _) hk1 (by intro q h1 h2; first | exact (h2 : False).elim | exact h2 | exact .inl h2 | exact .inr h2)) hk14 (by intro q h1 h2; first | exact (h2 : False).elim | exact h2 | exact .inl h2 | exact .inr h2)) hx15 (by intro q h1 h2; first | exact (h2 : False).elim | exact h2 | exact .inl h2 | exact .inr h2)) hx16 (by intro q h1 h2; first | exact (h2 : False).elim | exact h2 | exact .inl h2 | exact .inr h2))⟩
          · refine X.opw X.wN rfl (X.assign (v := .bool false) rfl) ?_
            refine X.opsEnd ?_
            refine X.condF rfl ?_
            refine X.seq ?_
            refine X.region ?_
            refine X.opP X.wN rfl rfl (X.eqI rfl rfl) (fun h108 => ?_) (fun h108 => ?_)
            · refine X.opw X.wN rfl (X.assign (v := .bool true) rfl) ?_
              refine X.opsEnd ?_
              refine X.condT rfl ?_
              refine X.regionD (fun q => ca q ≠ 0 ∨ cb q ≠ 0) 11 (by kernel_rfl) (by kernel_rfl) (fun w17 hk17 hz17 => ?_)
              refine X.dTake 0 rfl (by kernel_rfl) (by kernel_rfl) (by kernel_rfl) (X.dwN rfl) (fun w' hk' => X.move rfl) ?_
              refine X.dTake 1 rfl (by kernel_rfl) (by kernel_rfl) (by kernel_rfl) (X.dwN rfl) (fun w' hk' => X.nilCk rfl) ?_
              refine X.dTake 2 rfl (by kernel_rfl) (by kernel_rfl) (by kernel_rfl) (X.dwN rfl) (fun w' hk' => X.fldB (j := 0) Tryz.underlying29 rfl rfl Tryz.sizeOf26 rfl) ?_
              refine X.dTake 3 rfl (by kernel_rfl) (by kernel_rfl) (by kernel_rfl) (X.dwN rfl) (fun w' hk' => X.load1B Tryz.isAgg26 ((hP.keep (hk1.trans hk17)).ext hk' (by first | (intro hh; rcases hh with hh | hh; exact hh hp1; exact hh hp2) | (intro hh; exact hh hp1) | (intro hh; exact hh hp2) | (intro hh; rcases hh with hh | hh; exact absurd (h.D.lt _ hh) (by omega); exact absurd (h.X.lt _ hh) (by omega)) | (intro hh; exact absurd (h.D.lt _ hh) (by omega)) | (intro hh; exact absurd (h.X.lt _ hh) (by omega)) | (intros; omega))) rfl rfl) ?_
              refine X.dTake 5 rfl (by kernel_rfl) (by kernel_rfl) (by kernel_rfl) (X.dwN rfl) (fun w' hk' => X.move rfl) ?_
              refine X.dTake 6 rfl (by kernel_rfl) (by kernel_rfl) (by kernel_rfl) (X.dwN rfl) (fun w' hk' => X.nilCk rfl) ?_
              refine X.dTake 7 rfl (by kernel_rfl) (by kernel_rfl) (by kernel_rfl) (X.dwN rfl) (fun w' hk' => X.fldB (j := 1) Tryz.underlying29 rfl rfl Tryz.sizeOf27 rfl) ?_
              refine X.dTake 8 rfl (by kernel_rfl) (by kernel_rfl) (by kernel_rfl) (X.dwN rfl) (fun w' hk' => X.load1B Tryz.isAgg27 ((hP.keep (hk1.trans hk17)).ext hk' (by first | (intro hh; rcases hh with hh | hh; exact hh hp1; exact hh hp2) | (intro hh; exact hh hp1) | (intro hh; exact hh hp2) | (intro hh; rcases hh with hh | hh; exact absurd (h.D.lt _ hh) (by omega); exact absurd (h.X.lt _ hh) (by omega)) | (intro hh; exact absurd (h.D.lt _ hh) (by omega)) | (intro hh; exact absurd (h.X.lt _ hh) (by omega)) | (intros; omega))) rfl rfl) ?_
              refine X.dE (i := 4) (by kernel_rfl) rfl (X.dwN rfl) (X.callE (syncDirT1_c (h.keep (hk1.trans hk17)) hm ) Tryz.call25 rfl rfl) (by rintro _ w18 ⟨rfl, ca', hMd, hx18⟩ _; exact hx18.mono (fun _ _ h => Or.inl h)) ?_
              rintro _ w18 ⟨rfl, ca', hMd, hx18⟩
              have hx18' := hx18.size
              refine X.dE (i := 9) (by kernel_rfl) rfl (X.dwN rfl) (X.callE (syncDirT2_c hMd hm) Tryz.call26 rfl rfl) (by rintro _ w19 ⟨rfl, cb', hTw, hco, hx19⟩ _; exact hx19.mono (fun _ _ h => Or.inr h)) ?_
              rintro _ w19 ⟨rfl, cb', hTw, hco, hx19⟩
              have hx19' := hx19.size
              refine X.dTake 10 rfl (by kernel_rfl) (by kernel_rfl) (by kernel_rfl) (X.dwN rfl) (fun w' hk' => X.assign (v := .int .i64 _) rfl) ?_
              refine X.dStep (i := 11) (by kernel_rfl) rfl (X.dwN rfl) (X.assign (v := .int .i64 _) rfl) (fun h => absurd h (by decide)) ?_
              refine X.dEnd (by kernel_rfl) ?_
              refine X.inBlock ?_
              refine X.seq ?_
              refine X.region ?_
              refine X.opw X.wN rfl (X.move (v := .int .i64 _) rfl) ?_
              refine X.opw X.wN rfl (X.move (v := .int .i64 _) rfl) ?_
              refine X.opw X.wN rfl (X.move (v := .int .i64 _) rfl) ?_
              refine X.opw X.wN rfl (X.eqI rfl rfl) ?_
              refine X.opw X.wN rfl (X.assign (v := .int .i64 _) rfl) ?_
              refine X.opw X.wN rfl (X.assign (v := .bool _) rfl) ?_
              refine X.opsEnd ?_
              refine X.ret2 (v1 := (.int .i64 _)) (v2 := (.bool _)) Tryz.func7 Tryz.results7 rfl rfl ?_
              have hE : ∀ z : Int, (decide (z = z)) = true := fun z => decide_eq_true rfl
              have hz1 := hMd.st.2.size
              exact ⟨_, _, _, ca', cb', by rw [hE], hTw, fun q hq => ⟨hMd.st.1 q (by omega), hco q (by omega)⟩, (Ext.andThen (Ext.andThen (Ext.andThen (Ext.andThen (Ext.refl (fun q => ca q ≠ 0 ∨ cb q ≠ 0) _) hk1 (by intro q h1 h2; first | exact (h2 : False).elim | exact h2 | exact .inl h2 | exact .inr h2)) hk17 (by intro q h1 h2; first | exact (h2 : False).elim | exact h2 | exact .inl h2 | exact .inr h2)) hx18 (by intro q h1 h2; first | exact (h2 : False).elim | exact h2 | exact .inl h2 | exact .inr h2)) hx19 (by intro q h1 h2; first | exact (h2 : False).elim | exact h2 | exact .inl h2 | exact .inr h2))⟩
            · refine X.opw X.wN rfl (X.assign (v := .bool false) rfl) ?_
              refine X.opsEnd ?_
              refine X.condF rfl ?_
              refine X.seq ?_
              refine X.region ?_
              refine X.opP X.wN rfl rfl (X.eqI rfl rfl) (fun h120 => ?_) (fun h120 => ?_)
              · refine X.opw X.wN rfl (X.assign (v := .bool true) rfl) ?_
                refine X.opsEnd ?_
                refine X.condT rfl ?_
                refine X.regionD (fun q => ca q ≠ 0 ∨ cb q ≠ 0) 15 (by kernel_rfl) (by kernel_rfl) (fun w20 hk20 hz20 => ?_)
                refine X.dTake 0 rfl (by kernel_rfl) (by kernel_rfl) (by kernel_rfl) (X.dwN rfl) (fun w' hk' => X.move rfl) ?_
                refine X.dTake 1 rfl (by kernel_rfl) (by kernel_rfl) (by kernel_rfl) (X.dwN rfl) (fun w' hk' => X.nilCk rfl) ?_
                refine X.dTake 2 rfl (by kernel_rfl) (by kernel_rfl) (by kernel_rfl) (X.dwN rfl) (fun w' hk' => X.fldB (j := 0) Tryz.underlying29 rfl rfl Tryz.sizeOf26 rfl) ?_
                refine X.dTake 3 rfl (by kernel_rfl) (by kernel_rfl) (by kernel_rfl) (X.dwN rfl) (fun w' hk' => X.load1B Tryz.isAgg26 ((hP.keep (hk1.trans hk20)).ext hk' (by first | (intro hh; rcases hh with hh | hh; exact hh hp1; exact hh hp2) | (intro hh; exact hh hp1) | (intro hh; exact hh hp2) | (intro hh; rcases hh with hh | hh; exact absurd (h.D.lt _ hh) (by omega); exact absurd (h.X.lt _ hh) (by omega)) | (intro hh; exact absurd (h.D.lt _ hh) (by omega)) | (intro hh; exact absurd (h.X.lt _ hh) (by omega)) | (intros; omega))) rfl rfl) ?_
                refine X.dTake 4 rfl (by kernel_rfl) (by kernel_rfl) (by kernel_rfl) (X.dwN rfl) (fun w' hk' => X.fldB (j := 3) Tryz.underlying36 rfl rfl Tryz.sizeOf3 rfl) ?_
                refine X.dTake 5 rfl (by kernel_rfl) (by kernel_rfl) (by kernel_rfl) (X.dwN rfl) (fun w' hk' => X.load1B Tryz.isAgg3 ((hB1.keep hk20).ext hk' (by first | (intro hh; rcases hh with hh | hh; exact hh hp1; exact hh hp2) | (intro hh; exact hh hp1) | (intro hh; exact hh hp2) | (intro hh; rcases hh with hh | hh; exact absurd (h.D.lt _ hh) (by omega); exact absurd (h.X.lt _ hh) (by omega)) | (intro hh; exact absurd (h.D.lt _ hh) (by omega)) | (intro hh; exact absurd (h.X.lt _ hh) (by omega)) | (intros; omega))) rfl rfl) ?_
                refine X.dTake 7 rfl (by kernel_rfl) (by kernel_rfl) (by kernel_rfl) (X.dwN rfl) (fun w' hk' => X.move rfl) ?_
                refine X.dTake 8 rfl (by kernel_rfl) (by kernel_rfl) (by kernel_rfl) (X.dwN rfl) (fun w' hk' => X.nilCk rfl) ?_
                refine X.dTake 9 rfl (by kernel_rfl) (by kernel_rfl) (by kernel_rfl) (X.dwN rfl) (fun w' hk' => X.fldB (j := 1) Tryz.underlying29 rfl rfl Tryz.sizeOf27 rfl) ?_
                refine X.dTake 10 rfl (by kernel_rfl) (by kernel_rfl) (by kernel_rfl) (X.dwN rfl) (fun w' hk' => X.load1B Tryz.isAgg27 ((hP.keep (hk1.trans hk20)).ext hk' (by first | (intro hh; rcases hh with hh | hh; exact hh hp1; exact hh hp2) | (intro hh; exact hh hp1) | (intro hh; exact hh hp2) | (intro hh; rcases hh with hh | hh; exact absurd (h.D.lt _ hh) (by omega); exact absurd (h.X.lt _ hh) (by omega)) | (intro hh; exact absurd (h.D.lt _ hh) (by omega)) | (intro hh; exact absurd (h.X.lt _ hh) (by omega)) | (intros; omega))) rfl rfl) ?_
                refine X.dTake 11 rfl (by kernel_rfl) (by kernel_rfl) (by kernel_rfl) (X.dwN rfl) (fun w' hk' => X.fldB (j := 3) Tryz.underlying36 rfl rfl Tryz.sizeOf3 rfl) ?_
                refine X.dTake 12 rfl (by kernel_rfl) (by kernel_rfl) (by kernel_rfl) (X.dwN rfl) (fun w' hk' => X.load1B Tryz.isAgg3 ((hB1.keep hk20).ext hk' (by first | (intro hh; rcases hh with hh | hh; exact hh hp1; exact hh hp2) | (intro hh; exact hh hp1) | (intro hh; exact hh hp2) | (intro hh; rcases hh with hh | hh; exact absurd (h.D.lt _ hh) (by omega); exact absurd (h.X.lt _ hh) (by omega)) | (intro hh; exact absurd (h.D.lt _ hh) (by omega)) | (intro hh; exact absurd (h.X.lt _ hh) (by omega)) | (intros; omega))) rfl rfl) ?_
                refine X.dE (i := 6) (by kernel_rfl) rfl (X.dwN rfl) (X.callE (fuseT1_c (h.keep (hk1.trans hk20)) hm y4) Tryz.call27 rfl rfl) (by rintro _ w21 ⟨rfl, ca', hMd, hx21⟩ _; exact hx21.mono (fun _ _ h => Or.inl h)) ?_
                rintro _ w21 ⟨rfl, ca', hMd, hx21⟩
                have hx21' := hx21.size
                refine X.dE (i := 13) (by kernel_rfl) rfl (X.dwN rfl) (X.callE (fuseT2_c y4 hMd hm) Tryz.call28 rfl rfl) (by rintro _ w22 ⟨rfl, cb', hTw, hco, hx22⟩ _; exact hx22.mono (fun _ _ h => Or.inr h)) ?_
                rintro _ w22 ⟨rfl, cb', hTw, hco, hx22⟩
                have hx22' := hx22.size
                refine X.dTake 14 rfl (by kernel_rfl) (by kernel_rfl) (by kernel_rfl) (X.dwN rfl) (fun w' hk' => X.assign (v := .int .i64 _) rfl) ?_
                refine X.dStep (i := 15) (by kernel_rfl) rfl (X.dwN rfl) (X.assign (v := .int .i64 _) rfl) (fun h => absurd h (by decide)) ?_
                refine X.dEnd (by kernel_rfl) ?_
                refine X.inBlock ?_
                refine X.seq ?_
                refine X.region ?_
                refine X.opw X.wN rfl (X.move (v := .int .i64 _) rfl) ?_
                refine X.opw X.wN rfl (X.move (v := .int .i64 _) rfl) ?_
                refine X.opw X.wN rfl (X.move (v := .int .i64 _) rfl) ?_
                refine X.opw X.wN rfl (X.eqI rfl rfl) ?_
                refine X.opw X.wN rfl (X.assign (v := .int .i64 _) rfl) ?_
                refine X.opw X.wN rfl (X.assign (v := .bool _) rfl) ?_
                refine X.opsEnd ?_
                refine X.ret2 (v1 := (.int .i64 _)) (v2 := (.bool _)) Tryz.func7 Tryz.results7 rfl rfl ?_
                have hE : ∀ z : Int, (decide (z = z)) = true := fun z => decide_eq_true rfl
                have hz1 := hMd.st.2.size
                exact ⟨_, _, _, ca', cb', by rw [hE], hTw, fun q hq => ⟨hMd.st.1 q (by omega), hco q (by omega)⟩, (Ext.andThen (Ext.andThen (Ext.andThen (Ext.andThen (Ext.refl (fun q => ca q ≠ 0 ∨ cb q ≠ 0) _) hk1 (by intro q h1 h2; first | exact (h2 : False).elim | exact h2 | exact .inl h2 | exact .inr h2)) hk20 (by intro q h1 h2; first | exact (h2 : False).elim | exact h2 | exact .inl h2 | exact .inr h2)) hx21 (by intro q h1 h2; first | exact (h2 : False).elim | exact h2 | exact .inl h2 | exact .inr h2)) hx22 (by intro q h1 h2; first | exact (h2 : False).elim | exact h2 | exact .inl h2 | exact .inr h2))⟩
              · refine X.opw X.wN rfl (X.assign (v := .bool false) rfl) ?_
                refine X.opsEnd ?_
                refine X.condF rfl ?_
                refine X.seq ?_
                refine X.region ?_
                refine X.opP X.wN rfl rfl (X.eqI rfl rfl) (fun h136 => ?_) (fun h136 => ?_)
                · refine X.opw X.wN rfl (X.assign (v := .bool true) rfl) ?_
                  refine X.opsEnd ?_
                  refine X.condT rfl ?_
                  refine X.seq ?_
                  refine X.region ?_
                  refine X.opw X.wN rfl (X.assign rfl) ?_
                  refine X.opsEnd ?_
                  refine X.seq ?_
                  refine X.seq ?_
                  refine X.region ?_
                  refine X.opw X.wN rfl (X.fldB (j := 4) Tryz.underlying36 rfl rfl Tryz.sizeOf31 rfl) ?_
                  refine X.opw X.wN rfl (X.load1B Tryz.isAgg31 hB1 rfl rfl) ?_
                  refine X.opw X.wN rfl (X.lenSl Tryz.underlying31 rfl) ?_
                  refine X.opP X.wN rfl rfl (X.gtr rfl rfl) (fun h140 => ?_) (fun h140 => ?_)
                  · 
                    refine X.opsEnd ?_
                    refine X.condT rfl ?_
                    refine X.region ?_
                    refine X.opw X.wN rfl (X.fldB (j := 4) Tryz.underlying36 rfl rfl Tryz.sizeOf31 rfl) ?_
                    refine X.opw X.wN rfl (X.load1B Tryz.isAgg31 hB1 rfl rfl) ?_
                    refine X.opw X.wN rfl (X.idxS (hb.keep hk1) Tryz.underlying31 Tryz.sizeOf5 rfl rfl ⟨by omega, by omega⟩) ?_
                    refine X.opw X.wN rfl (X.loadS Tryz.isAgg5 (hb.keep hk1) (j := 0) (xs_head (by omega)) rfl (fun _ h => by rw [h.1]; rfl)) ?_
                    refine X.opw X.wN rfl (X.assign (v := .int .u8 _) rfl) ?_
                    refine X.opsEnd ?_
                    refine X.regionD (fun q => ca q ≠ 0 ∨ cb q ≠ 0) 21 (by kernel_rfl) (by kernel_rfl) (fun w23 hk23 hz23 => ?_)
                    refine X.dTake 0 rfl (by kernel_rfl) (by kernel_rfl) (by kernel_rfl) (X.dwN rfl) (fun w' hk' => X.move rfl) ?_
                    refine X.dTake 1 rfl (by kernel_rfl) (by kernel_rfl) (by kernel_rfl) (X.dwN rfl) (fun w' hk' => X.nilCk rfl) ?_
                    refine X.dTake 2 rfl (by kernel_rfl) (by kernel_rfl) (by kernel_rfl) (X.dwN rfl) (fun w' hk' => X.fldB (j := 0) Tryz.underlying29 rfl rfl Tryz.sizeOf26 rfl) ?_
                    refine X.dTake 3 rfl (by kernel_rfl) (by kernel_rfl) (by kernel_rfl) (X.dwN rfl) (fun w' hk' => X.load1B Tryz.isAgg26 ((hP.keep (hk1.trans hk23)).ext hk' (by first | (intro hh; rcases hh with hh | hh; exact hh hp1; exact hh hp2) | (intro hh; exact hh hp1) | (intro hh; exact hh hp2) | (intro hh; rcases hh with hh | hh; exact absurd (h.D.lt _ hh) (by omega); exact absurd (h.X.lt _ hh) (by omega)) | (intro hh; exact absurd (h.D.lt _ hh) (by omega)) | (intro hh; exact absurd (h.X.lt _ hh) (by omega)) | (intros; omega))) rfl rfl) ?_
                    refine X.dTake 4 rfl (by kernel_rfl) (by kernel_rfl) (by kernel_rfl) (X.dwN rfl) (fun w' hk' => X.fldB (j := 1) Tryz.underlying36 rfl rfl Tryz.sizeOf9 rfl) ?_
                    refine X.dTake 5 rfl (by kernel_rfl) (by kernel_rfl) (by kernel_rfl) (X.dwN rfl) (fun w' hk' => X.load1B Tryz.isAgg9 ((hB1.keep hk23).ext hk' (by first | (intro hh; rcases hh with hh | hh; exact hh hp1; exact hh hp2) | (intro hh; exact hh hp1) | (intro hh; exact hh hp2) | (intro hh; rcases hh with hh | hh; exact absurd (h.D.lt _ hh) (by omega); exact absurd (h.X.lt _ hh) (by omega)) | (intro hh; exact absurd (h.D.lt _ hh) (by omega)) | (intro hh; exact absurd (h.X.lt _ hh) (by omega)) | (intros; omega))) rfl rfl) ?_
                    refine X.dTake 6 rfl (by kernel_rfl) (by kernel_rfl) (by kernel_rfl) (X.dwN rfl) (fun w' hk' => X.fldB (j := 3) Tryz.underlying36 rfl rfl Tryz.sizeOf3 rfl) ?_
                    refine X.dTake 7 rfl (by kernel_rfl) (by kernel_rfl) (by kernel_rfl) (X.dwN rfl) (fun w' hk' => X.load1B Tryz.isAgg3 ((hB1.keep hk23).ext hk' (by first | (intro hh; rcases hh with hh | hh; exact hh hp1; exact hh hp2) | (intro hh; exact hh hp1) | (intro hh; exact hh hp2) | (intro hh; rcases hh with hh | hh; exact absurd (h.D.lt _ hh) (by omega); exact absurd (h.X.lt _ hh) (by omega)) | (intro hh; exact absurd (h.D.lt _ hh) (by omega)) | (intro hh; exact absurd (h.X.lt _ hh) (by omega)) | (intros; omega))) rfl rfl) ?_
                    refine X.dTake 8 rfl (by kernel_rfl) (by kernel_rfl) (by kernel_rfl) (X.dwN rfl) (fun w' hk' => X.move (v := .int .u8 _) rfl) ?_
                    refine X.dTake 10 rfl (by kernel_rfl) (by kernel_rfl) (by kernel_rfl) (X.dwN rfl) (fun w' hk' => X.move rfl) ?_
                    refine X.dTake 11 rfl (by kernel_rfl) (by kernel_rfl) (by kernel_rfl) (X.dwN rfl) (fun w' hk' => X.nilCk rfl) ?_
                    refine X.dTake 12 rfl (by kernel_rfl) (by kernel_rfl) (by kernel_rfl) (X.dwN rfl) (fun w' hk' => X.fldB (j := 1) Tryz.underlying29 rfl rfl Tryz.sizeOf27 rfl) ?_
                    refine X.dTake 13 rfl (by kernel_rfl) (by kernel_rfl) (by kernel_rfl) (X.dwN rfl) (fun w' hk' => X.load1B Tryz.isAgg27 ((hP.keep (hk1.trans hk23)).ext hk' (by first | (intro hh; rcases hh with hh | hh; exact hh hp1; exact hh hp2) | (intro hh; exact hh hp1) | (intro hh; exact hh hp2) | (intro hh; rcases hh with hh | hh; exact absurd (h.D.lt _ hh) (by omega); exact absurd (h.X.lt _ hh) (by omega)) | (intro hh; exact absurd (h.D.lt _ hh) (by omega)) | (intro hh; exact absurd (h.X.lt _ hh) (by omega)) | (intros; omega))) rfl rfl) ?_
                    refine X.dTake 14 rfl (by kernel_rfl) (by kernel_rfl) (by kernel_rfl) (X.dwN rfl) (fun w' hk' => X.fldB (j := 1) Tryz.underlying36 rfl rfl Tryz.sizeOf9 rfl) ?_
                    refine X.dTake 15 rfl (by kernel_rfl) (by kernel_rfl) (by kernel_rfl) (X.dwN rfl) (fun w' hk' => X.load1B Tryz.isAgg9 ((hB1.keep hk23).ext hk' (by first | (intro hh; rcases hh with hh | hh; exact hh hp1; exact hh hp2) | (intro hh; exact hh hp1) | (intro hh; exact hh hp2) | (intro hh; rcases hh with hh | hh; exact absurd (h.D.lt _ hh) (by omega); exact absurd (h.X.lt _ hh) (by omega)) | (intro hh; exact absurd (h.D.lt _ hh) (by omega)) | (intro hh; exact absurd (h.X.lt _ hh) (by omega)) | (intros; omega))) rfl rfl) ?_
                    refine X.dTake 16 rfl (by kernel_rfl) (by kernel_rfl) (by kernel_rfl) (X.dwN rfl) (fun w' hk' => X.fldB (j := 3) Tryz.underlying36 rfl rfl Tryz.sizeOf3 rfl) ?_
                    refine X.dTake 17 rfl (by kernel_rfl) (by kernel_rfl) (by kernel_rfl) (X.dwN rfl) (fun w' hk' => X.load1B Tryz.isAgg3 ((hB1.keep hk23).ext hk' (by first | (intro hh; rcases hh with hh | hh; exact hh hp1; exact hh hp2) | (intro hh; exact hh hp1) | (intro hh; exact hh hp2) | (intro hh; rcases hh with hh | hh; exact absurd (h.D.lt _ hh) (by omega); exact absurd (h.X.lt _ hh) (by omega)) | (intro hh; exact absurd (h.D.lt _ hh) (by omega)) | (intro hh; exact absurd (h.X.lt _ hh) (by omega)) | (intros; omega))) rfl rfl) ?_
                    refine X.dTake 18 rfl (by kernel_rfl) (by kernel_rfl) (by kernel_rfl) (X.dwN rfl) (fun w' hk' => X.move (v := .int .u8 _) rfl) ?_
                    refine X.dE (i := 9) (by kernel_rfl) rfl (X.dwN rfl) (X.callE (rotT1_c (h.keep (hk1.trans hk23)) hm nm y4 (xs.getD 0 0) hy4) Tryz.call29 rfl rfl) (by rintro _ w24 ⟨rfl, ca', hMd, hx24⟩ _; exact hx24.mono (fun _ _ h => Or.inl h)) ?_
                    rintro _ w24 ⟨rfl, ca', hMd, hx24⟩
                    have hx24' := hx24.size
                    refine X.dE (i := 19) (by kernel_rfl) rfl (X.dwN rfl) (X.callE (rotT2_c nm y4 (xs.getD 0 0) hMd hm hy4) Tryz.call30 rfl rfl) (by rintro _ w25 ⟨rfl, cb', hTw, hco, hx25⟩ _; exact hx25.mono (fun _ _ h => Or.inr h)) ?_
                    rintro _ w25 ⟨rfl, cb', hTw, hco, hx25⟩
                    have hx25' := hx25.size
                    refine X.dTake 20 rfl (by kernel_rfl) (by kernel_rfl) (by kernel_rfl) (X.dwN rfl) (fun w' hk' => X.assign (v := .int .i64 _) rfl) ?_
                    refine X.dStep (i := 21) (by kernel_rfl) rfl (X.dwN rfl) (X.assign (v := .int .i64 _) rfl) (fun h => absurd h (by decide)) ?_
                    refine X.dEnd (by kernel_rfl) ?_
                    refine X.inBlock ?_
                    refine X.seq ?_
                    refine X.region ?_
                    refine X.opw X.wN rfl (X.move (v := .int .i64 _) rfl) ?_
                    refine X.opw X.wN rfl (X.move (v := .int .i64 _) rfl) ?_
                    refine X.opw X.wN rfl (X.move (v := .int .i64 _) rfl) ?_
                    refine X.opw X.wN rfl (X.eqI rfl rfl) ?_
                    refine X.opw X.wN rfl (X.assign (v := .int .i64 _) rfl) ?_
                    refine X.opw X.wN rfl (X.assign (v := .bool _) rfl) ?_
                    refine X.opsEnd ?_
                    refine X.ret2 (v1 := (.int .i64 _)) (v2 := (.bool _)) Tryz.func7 Tryz.results7 rfl rfl ?_
                    have hE : ∀ z : Int, (decide (z = z)) = true := fun z => decide_eq_true rfl
                    have hz1 := hMd.st.2.size
                    exact ⟨_, _, _, ca', cb', by rw [hE], hTw, fun q hq => ⟨hMd.st.1 q (by omega), hco q (by omega)⟩, (Ext.andThen (Ext.andThen (Ext.andThen (Ext.andThen (Ext.refl (fun q => ca q ≠ 0 ∨ cb q ≠ 0) _) hk1 (by intro q h1 h2; first | exact (h2 : False).elim | exact h2 | exact .inl h2 | exact .inr h2)) hk23 (by intro q h1 h2; first | exact (h2 : False).elim | exact h2 | exact .inl h2 | exact .inr h2)) hx24 (by intro q h1 h2; first | exact (h2 : False).elim | exact h2 | exact .inl h2 | exact .inr h2)) hx25 (by intro q h1 h2; first | exact (h2 : False).elim | exact h2 | exact .inl h2 | exact .inr h2))⟩
                  · 
                    refine X.opsEnd ?_
                    refine X.condF rfl ?_
                    refine X.skip ?_
                    refine X.regionD (fun q => ca q ≠ 0 ∨ cb q ≠ 0) 21 (by kernel_rfl) (by kernel_rfl) (fun w26 hk26 hz26 => ?_)
                    refine X.dTake 0 rfl (by kernel_rfl) (by kernel_rfl) (by kernel_rfl) (X.dwN rfl) (fun w' hk' => X.move rfl) ?_
                    refine X.dTake 1 rfl (by kernel_rfl) (by kernel_rfl) (by kernel_rfl) (X.dwN rfl) (fun w' hk' => X.nilCk rfl) ?_
                    refine X.dTake 2 rfl (by kernel_rfl) (by kernel_rfl) (by kernel_rfl) (X.dwN rfl) (fun w' hk' => X.fldB (j := 0) Tryz.underlying29 rfl rfl Tryz.sizeOf26 rfl) ?_
                    refine X.dTake 3 rfl (by kernel_rfl) (by kernel_rfl) (by kernel_rfl) (X.dwN rfl) (fun w' hk' => X.load1B Tryz.isAgg26 ((hP.keep (hk1.trans hk26)).ext hk' (by first | (intro hh; rcases hh with hh | hh; exact hh hp1; exact hh hp2) | (intro hh; exact hh hp1) | (intro hh; exact hh hp2) | (intro hh; rcases hh with hh | hh; exact absurd (h.D.lt _ hh) (by omega); exact absurd (h.X.lt _ hh) (by omega)) | (intro hh; exact absurd (h.D.lt _ hh) (by omega)) | (intro hh; exact absurd (h.X.lt _ hh) (by omega)) | (intros; omega))) rfl rfl) ?_
                    refine X.dTake 4 rfl (by kernel_rfl) (by kernel_rfl) (by kernel_rfl) (X.dwN rfl) (fun w' hk' => X.fldB (j := 1) Tryz.underlying36 rfl rfl Tryz.sizeOf9 rfl) ?_
                    refine X.dTake 5 rfl (by kernel_rfl) (by kernel_rfl) (by kernel_rfl) (X.dwN rfl) (fun w' hk' => X.load1B Tryz.isAgg9 ((hB1.keep hk26).ext hk' (by first | (intro hh; rcases hh with hh | hh; exact hh hp1; exact hh hp2) | (intro hh; exact hh hp1) | (intro hh; exact hh hp2) | (intro hh; rcases hh with hh | hh; exact absurd (h.D.lt _ hh) (by omega); exact absurd (h.X.lt _ hh) (by omega)) | (intro hh; exact absurd (h.D.lt _ hh) (by omega)) | (intro hh; exact absurd (h.X.lt _ hh) (by omega)) | (intros; omega))) rfl rfl) ?_
                    refine X.dTake 6 rfl (by kernel_rfl) (by kernel_rfl) (by kernel_rfl) (X.dwN rfl) (fun w' hk' => X.fldB (j := 3) Tryz.underlying36 rfl rfl Tryz.sizeOf3 rfl) ?_
                    refine X.dTake 7 rfl (by kernel_rfl) (by kernel_rfl) (by kernel_rfl) (X.dwN rfl) (fun w' hk' => X.load1B Tryz.isAgg3 ((hB1.keep hk26).ext hk' (by first | (intro hh; rcases hh with hh | hh; exact hh hp1; exact hh hp2) | (intro hh; exact hh hp1) | (intro hh; exact hh hp2) | (intro hh; rcases hh with hh | hh; exact absurd (h.D.lt _ hh) (by omega); exact absurd (h.X.lt _ hh) (by omega)) | (intro hh; exact absurd (h.D.lt _ hh) (by omega)) | (intro hh; exact absurd (h.X.lt _ hh) (by omega)) | (intros; omega))) rfl rfl) ?_
                    refine X.dTake 8 rfl (by kernel_rfl) (by kernel_rfl) (by kernel_rfl) (X.dwN rfl) (fun w' hk' => X.move (v := .int .u8 _) rfl) ?_
                    refine X.dTake 10 rfl (by kernel_rfl) (by kernel_rfl) (by kernel_rfl) (X.dwN rfl) (fun w' hk' => X.move rfl) ?_
                    refine X.dTake 11 rfl (by kernel_rfl) (by kernel_rfl) (by kernel_rfl) (X.dwN rfl) (fun w' hk' => X.nilCk rfl) ?_
                    refine X.dTake 12 rfl (by kernel_rfl) (by kernel_rfl) (by kernel_rfl) (X.dwN rfl) (fun w' hk' => X.fldB (j := 1) Tryz.underlying29 rfl rfl Tryz.sizeOf27 rfl) ?_
                    refine X.dTake 13 rfl (by kernel_rfl) (by kernel_rfl) (by kernel_rfl) (X.dwN rfl) (fun w' hk' => X.load1B Tryz.isAgg27 ((hP.keep (hk1.trans hk26)).ext hk' (by first | (intro hh; rcases hh with hh | hh; exact hh hp1; exact hh hp2) | (intro hh; exact hh hp1) | (intro hh; exact hh hp2) | (intro hh; rcases hh with hh | hh; exact absurd (h.D.lt _ hh) (by omega); exact absurd (h.X.lt _ hh) (by omega)) | (intro hh; exact absurd (h.D.lt _ hh) (by omega)) | (intro hh; exact absurd (h.X.lt _ hh) (by omega)) | (intros; omega))) rfl rfl) ?_
                    refine X.dTake 14 rfl (by kernel_rfl) (by kernel_rfl) (by kernel_rfl) (X.dwN rfl) (fun w' hk' => X.fldB (j := 1) Tryz.underlying36 rfl rfl Tryz.sizeOf9 rfl) ?_
                    refine X.dTake 15 rfl (by kernel_rfl) (by kernel_rfl) (by kernel_rfl) (X.dwN rfl) (fun w' hk' => X.load1B Tryz.isAgg9 ((hB1.keep hk26).ext hk' (by first | (intro hh; rcases hh with hh | hh; exact hh hp1; exact hh hp2) | (intro hh; exact hh hp1) | (intro hh; exact hh hp2) | (intro hh; rcases hh with hh | hh; exact absurd (h.D.lt _ hh) (by omega); exact absurd (h.X.lt _ hh) (by omega)) | (intro hh; exact absurd (h.D.lt _ hh) (by omega)) | (intro hh; exact absurd (h.X.lt _ hh) (by omega)) | (intros; omega))) rfl rfl) ?_
                    refine X.dTake 16 rfl (by kernel_rfl) (by kernel_rfl) (by kernel_rfl) (X.dwN rfl) (fun w' hk' => X.fldB (j := 3) Tryz.underlying36 rfl rfl Tryz.sizeOf3 rfl) ?_
                    refine X.dTake 17 rfl (by kernel_rfl) (by kernel_rfl) (by kernel_rfl) (X.dwN rfl) (fun w' hk' => X.load1B Tryz.isAgg3 ((hB1.keep hk26).ext hk' (by first | (intro hh; rcases hh with hh | hh; exact hh hp1; exact hh hp2) | (intro hh; exact hh hp1) | (intro hh; exact hh hp2) | (intro hh; rcases hh with hh | hh; exact absurd (h.D.lt _ hh) (by omega); exact absurd (h.X.lt _ hh) (by omega)) | (intro hh; exact absurd (h.D.lt _ hh) (by omega)) | (intro hh; exact absurd (h.X.lt _ hh) (by omega)) | (intros; omega))) rfl rfl) ?_
                    refine X.dTake 18 rfl (by kernel_rfl) (by kernel_rfl) (by kernel_rfl) (X.dwN rfl) (fun w' hk' => X.move (v := .int .u8 _) rfl) ?_
                    refine X.dE (i := 9) (by kernel_rfl) rfl (X.dwN rfl) (X.callE (rotT1_c (h.keep (hk1.trans hk26)) hm nm y4 0 hy4) Tryz.call29 rfl rfl) (by rintro _ w27 ⟨rfl, ca', hMd, hx27⟩ _; exact hx27.mono (fun _ _ h => Or.inl h)) ?_
                    rintro _ w27 ⟨rfl, ca', hMd, hx27⟩
                    have hx27' := hx27.size
                    refine X.dE (i := 19) (by kernel_rfl) rfl (X.dwN rfl) (X.callE (rotT2_c nm y4 0 hMd hm hy4) Tryz.call30 rfl rfl) (by rintro _ w28 ⟨rfl, cb', hTw, hco, hx28⟩ _; exact hx28.mono (fun _ _ h => Or.inr h)) ?_
                    rintro _ w28 ⟨rfl, cb', hTw, hco, hx28⟩
                    have hx28' := hx28.size
                    refine X.dTake 20 rfl (by kernel_rfl) (by kernel_rfl) (by kernel_rfl) (X.dwN rfl) (fun w' hk' => X.assign (v := .int .i64 _) rfl) ?_
                    refine X.dStep (i := 21) (by kernel_rfl) rfl (X.dwN rfl) (X.assign (v := .int .i64 _) rfl) (fun h => absurd h (by decide)) ?_
                    refine X.dEnd (by kernel_rfl) ?_
                    refine X.inBlock ?_
                    refine X.seq ?_
                    refine X.region ?_
                    refine X.opw X.wN rfl (X.move (v := .int .i64 _) rfl) ?_
                    refine X.opw X.wN rfl (X.move (v := .int .i64 _) rfl) ?_
                    refine X.opw X.wN rfl (X.move (v := .int .i64 _) rfl) ?_
                    refine X.opw X.wN rfl (X.eqI rfl rfl) ?_
                    refine X.opw X.wN rfl (X.assign (v := .int .i64 _) rfl) ?_
                    refine X.opw X.wN rfl (X.assign (v := .bool _) rfl) ?_
                    refine X.opsEnd ?_
                    refine X.ret2 (v1 := (.int .i64 _)) (v2 := (.bool _)) Tryz.func7 Tryz.results7 rfl rfl ?_
                    have hE : ∀ z : Int, (decide (z = z)) = true := fun z => decide_eq_true rfl
                    have hz1 := hMd.st.2.size
                    exact ⟨_, _, _, ca', cb', by rw [hE], hTw, fun q hq => ⟨hMd.st.1 q (by omega), hco q (by omega)⟩, (Ext.andThen (Ext.andThen (Ext.andThen (Ext.andThen (Ext.refl (fun q => ca q ≠ 0 ∨ cb q ≠ 0) _) hk1 (by intro q h1 h2; first | exact (h2 : False).elim | exact h2 | exact .inl h2 | exact .inr h2)) hk26 (by intro q h1 h2; first | exact (h2 : False).elim | exact h2 | exact .inl h2 | exact .inr h2)) hx27 (by intro q h1 h2; first | exact (h2 : False).elim | exact h2 | exact .inl h2 | exact .inr h2)) hx28 (by intro q h1 h2; first | exact (h2 : False).elim | exact h2 | exact .inl h2 | exact .inr h2))⟩
                · refine X.opw X.wN rfl (X.assign (v := .bool false) rfl) ?_
                  refine X.opsEnd ?_
                  refine X.condF rfl ?_
                  refine X.seq ?_
                  refine X.region ?_
                  refine X.opP X.wN rfl rfl (X.eqI rfl rfl) (fun h166 => ?_) (fun h166 => ?_)
                  · exact absurd h166 h9
                  · refine X.opw X.wN rfl (X.assign (v := .bool false) rfl) ?_
                    refine X.opsEnd ?_
                    refine X.condF rfl ?_
                    refine X.seq ?_
                    refine X.region ?_
                    refine X.opw X.wN rfl (X.assign rfl) ?_
                    refine X.opw X.wN rfl (X.assign rfl) ?_
                    refine X.opsEnd ?_
                    refine X.ret2 (v1 := (.int .i64 _)) (v2 := (.bool _)) Tryz.func7 Tryz.results7 rfl rfl ?_
                    exact ⟨0, s, t, ca, cb, rfl, ⟨h.D.keep hk1, h.X.keep hk1, h.ap, h.inv, h.fit, h.tie, by have := h.sz; omega, h.lo, by have := h.gw; omega⟩, fun _ _ => ⟨rfl, rfl⟩, (Ext.andThen (Ext.refl (fun q => ca q ≠ 0 ∨ cb q ≠ 0) _) hk1 (by intro q h1 h2; first | exact (h2 : False).elim | exact h2 | exact .inl h2 | exact .inr h2))⟩
end Go.Proofs.YtcdebnppbnmmgaaGreat

namespace Go.Proofs.YtcdebnppbnmmgaaGreat
open Go Go.Proofs.YtcdebnppbnmmgaaGreat.X
set_option linter.unusedVariables false
set_option linter.unusedSimpArgs false
section
variable {g b x m : Nat} {ca cb : Nat → Nat} {w : World} {r : Int} {s : DS} {t : RS}
theorem downT_c (h : Tw g ca cb w b x m r s t) : Ret Tryz.prog 37 #[ptrV x] w fun v w' => v = .bool s.down ∧ Keep w w' := by
  obtain ⟨vF, vD, vX, vC, pt, hB⟩ := h.X
  rw [← h.tie.down h.inv.ok]; exact RDown_c _ hB
theorem sizeT_c (nm : ByteArray) (h : Tw g ca cb w b x m r s t) (hm : m ≤ 40000) : Ret Tryz.prog 39 #[ptrV x, .string nm] w fun v w' => v = .tuple #[.int .i64 (s.sizeOf nm).1, .int .i64 (s.sizeOf nm).2] ∧ Keep w w' := by
  obtain ⟨vF, vD, vX, vC, pt, hB⟩ := h.X
  rw [← h.tie.size h.inv.ok]; exact RSize_c nm _ hB (h.ok hm)
theorem usedT_c (h : Tw g ca cb w b x m r s t) (hm : m ≤ 40000) : Ret Tryz.prog 42 #[ptrV x] w fun v w' => v = .int .i64 (s.used : Int) ∧ Keep w w' := by
  obtain ⟨vF, vD, vX, vC, pt, hB⟩ := h.X
  rw [← h.tie.used h.inv.ok]; exact RUsed_c _ hB (h.ok hm)
theorem looseT_c (h : Tw g ca cb w b x m r s t) (hm : m ≤ 40000) : Ret Tryz.prog 41 #[ptrV x] w fun v w' => v = .tuple #[.int .i64 (s.loose.1 : Int), .int .i64 (s.loose.2.1 : Int), .int .i64 (s.loose.2.2 : Int)] ∧ Keep w w' := by
  obtain ⟨vF, vD, vX, vC, pt, hB⟩ := h.X
  rw [← h.tie.loose h.inv.ok (h.ok hm)]; exact RLoose_c _ hB (h.ok hm)
theorem namesT_c (h : Tw g ca cb w b x m r s t) (hm : m ≤ 40000) : Ret Tryz.prog 35 #[ptrV x] w fun v w' => (∃ A c, v = .slice A s.dir.length c ∧ Sl KS w.heap.size w'.heap.size w' A s.dir.length (t.dir.map (·.1))) ∧ Keep w w' := by
  obtain ⟨vF, vD, vX, vC, pt, hB⟩ := h.X
  refine (RNames_c _ hB (h.ok hm) (fun p hp => (h.inv.ok.dir p (h.tie.dir.in_ hp)).2.2)).mono fun v w' ⟨hM, hk⟩ => ?_
  obtain ⟨A, c, e, hc, hs⟩ := hM.slF KS_flat w.heap.size (fun _ h => h)
  have hl : (t.dir.map (·.1)).length = s.dir.length := by rw [List.length_map]; exact h.tie.dlen h.inv.ok
  rw [hl] at e hs
  exact ⟨⟨A, c, e, hs⟩, hk⟩
theorem namesD_c (h : Tw g ca cb w b x m r s t) : Ret Tryz.prog 34 #[ptrV b] w fun v w' => (∃ A c, v = .slice A s.dir.length c ∧ Sl KS w.heap.size w'.heap.size w' A s.dir.length (t.dir.map (·.1))) ∧ Keep w w' := by
  refine (namesR_c h.D h.inv.ok).mono fun v w' ⟨hM, hk⟩ => ?_
  rw [h.tie.names h.inv.ok] at hM
  obtain ⟨A, c, e, hc, hs⟩ := hM.slF KS_flat w.heap.size (fun _ h => h)
  have hl : (t.dir.map (·.1)).length = s.dir.length := by rw [List.length_map]; exact h.tie.dlen h.inv.ok
  rw [hl] at e hs
  exact ⟨⟨A, c, e, hs⟩, hk⟩
theorem readT_c (nm : ByteArray) (a n : Int) (h : Tw g ca cb w b x m r s t) (hm : m ≤ 40000) (han : -9223372036854775808 ≤ a ∧ a ≤ 9223372036854775807 ∧ -9223372036854775808 ≤ n ∧ n ≤ 9223372036854775807) : Ret Tryz.prog 40 #[ptrV x, .string nm, .int .i64 a, .int .i64 n] w fun v w' => ∃ A c, v = .tuple #[.slice A (s.read nm a n).1.length c, .int .i64 (s.read nm a n).2] ∧ Sl KB w.heap.size w'.heap.size w' A (s.read nm a n).1.length (s.read nm a n).1 ∧ Keep w w' := by
  obtain ⟨vF, vD, vX, vC, pt, hB⟩ := h.X
  rw [← h.tie.read h.inv.ok]
  refine (RRead_c nm a n _ hB (h.ok hm) han).mono fun v w' ⟨y, e, hM, hk⟩ => ?_
  obtain ⟨A, c, rfl, hc, hs⟩ := hM.slF KB_flat w.heap.size (fun _ h => h)
  exact ⟨A, c, e, hs, hk⟩
theorem readD_c (nm : ByteArray) (a n : Int) (h : Tw g ca cb w b x m r s t) (han : -9223372036854775808 ≤ a ∧ a ≤ 9223372036854775807 ∧ -9223372036854775808 ≤ n ∧ n ≤ 9223372036854775807) : Ret Tryz.prog 16 #[ptrV b, .string nm, .int .i64 a, .int .i64 n] w fun v w' => ∃ A c, v = .tuple #[.slice A (s.read nm a n).1.length c, .int .i64 (s.read nm a n).2] ∧ Sl KB w.heap.size w'.heap.size w' A (s.read nm a n).1.length (s.read nm a n).1 ∧ Keep w w' := by
  refine (readR_c h.D h.inv.ok nm a n han).mono fun v w' ⟨y, e, hM, hk⟩ => ?_
  obtain ⟨A, c, rfl, hc, hs⟩ := hM.slF KB_flat w.heap.size (fun _ h => h.1)
  exact ⟨A, c, e, hs, hk⟩
theorem sizeOf_rng (h : s.Ok) (nm : ByteArray) : 0 ≤ (s.sizeOf nm).1 ∧ (s.sizeOf nm).1 ≤ 1048576 := by
  rw [DS.sizeOf]
  cases asc nm s.dir with
  | none => exact ⟨(show (0 : Int) ≤ 0 by decide), (show (0 : Int) ≤ 1048576 by decide)⟩
  | some k => have := h.flen k; simp only []; omega
end
set_option maxHeartbeats 4000000 in
set_option maxRecDepth 100000 in
theorem like_c {g b x m p : Nat} {ca cb : Nat → Nat} {r : Int} {s : DS} {t : RS} (w : World) (h : Tw g ca cb w b x m r s t) (hm : m ≤ 40000) (hP : Blk w p [ptrV b, ptrV x] 29) :
    Ret Tryz.prog 9 #[ptrV p] w fun v w' => v = .bool true ∧ Keep w w' := by
  have hok := h.inv.ok
  have hfew := hok.few
  obtain ⟨vF, vD, vX, vC, pt, hXR⟩ := h.X
  have hXB := hXR.B
  refine X.enter Tryz.func9 rfl Tryz.ntmps9 rfl ?_
  refine X.seq ?_
  refine X.region ?_
  refine X.opw X.wN rfl (X.assign rfl) ?_
  refine X.opsEnd ?_
  refine X.seq ?_
  refine X.regionD (fun _ => False) 11 (by kernel_rfl) (by kernel_rfl) (fun w1 hk1 hz1 => ?_)
  refine X.dTake 0 rfl (by kernel_rfl) (by kernel_rfl) (by kernel_rfl) (X.dwN rfl) (fun w' hk' => X.move rfl) ?_
  refine X.dTake 1 rfl (by kernel_rfl) (by kernel_rfl) (by kernel_rfl) (X.dwN rfl) (fun w' hk' => X.nilCk rfl) ?_
  refine X.dTake 2 rfl (by kernel_rfl) (by kernel_rfl) (by kernel_rfl) (X.dwN rfl) (fun w' hk' => X.fldB (j := 0) Tryz.underlying29 rfl rfl Tryz.sizeOf26 rfl) ?_
  refine X.dTake 3 rfl (by kernel_rfl) (by kernel_rfl) (by kernel_rfl) (X.dwN rfl) (fun w' hk' => X.load1B Tryz.isAgg26 (hP.keep (hk1.trans hk')) rfl rfl) ?_
  refine X.dTake 5 rfl (by kernel_rfl) (by kernel_rfl) (by kernel_rfl) (X.dwN rfl) (fun w' hk' => X.move rfl) ?_
  refine X.dTake 6 rfl (by kernel_rfl) (by kernel_rfl) (by kernel_rfl) (X.dwN rfl) (fun w' hk' => X.nilCk rfl) ?_
  refine X.dTake 7 rfl (by kernel_rfl) (by kernel_rfl) (by kernel_rfl) (X.dwN rfl) (fun w' hk' => X.fldB (j := 1) Tryz.underlying29 rfl rfl Tryz.sizeOf27 rfl) ?_
  refine X.dTake 8 rfl (by kernel_rfl) (by kernel_rfl) (by kernel_rfl) (X.dwN rfl) (fun w' hk' => X.load1B Tryz.isAgg27 (hP.keep (hk1.trans hk')) rfl rfl) ?_
  refine X.dE (i := 4) (by kernel_rfl) rfl (X.dwN rfl) (X.callE (namesD_c (h.keep hk1)) Tryz.call34 rfl rfl) (by rintro _ w2 ⟨⟨A2, c2, rfl, hs2⟩, hk2⟩ _; exact hk2.mono (fun _ _ h => h.elim)) ?_
  rintro _ w2 ⟨⟨A2, c2, rfl, hs2⟩, hk2⟩
  have hk2' := hk2.size
  refine X.dE (i := 9) (by kernel_rfl) rfl (X.dwN rfl) (X.callE (namesT_c (h.keep (hk1.trans hk2)) hm) Tryz.call35 rfl rfl) (by rintro _ w3 ⟨⟨A3, c3, rfl, hs3⟩, hk3⟩ _; exact hk3.mono (fun _ _ h => h.elim)) ?_
  rintro _ w3 ⟨⟨A3, c3, rfl, hs3⟩, hk3⟩
  have hk3' := hk3.size
  refine X.dTake 10 rfl (by kernel_rfl) (by kernel_rfl) (by kernel_rfl) (X.dwN rfl) (fun w' hk' => X.assign (v := .slice _ _ _) rfl) ?_
  refine X.dStep (i := 11) (by kernel_rfl) rfl (X.dwN rfl) (X.assign (v := .slice _ _ _) rfl) (fun h => absurd h (by decide)) ?_
  refine X.dEnd (by kernel_rfl) ?_
  refine X.seq ?_
  refine X.seq ?_
  refine X.regionD (fun _ => False) 18 (by kernel_rfl) (by kernel_rfl) (fun w4 hk4 hz4 => ?_)
  refine X.dTake 0 rfl (by kernel_rfl) (by kernel_rfl) (by kernel_rfl) (X.dwN rfl) (fun w' hk' => X.move (v := .slice _ _ _) rfl) ?_
  refine X.dTake 1 rfl (by kernel_rfl) (by kernel_rfl) (by kernel_rfl) (X.dwN rfl) (fun w' hk' => X.lenSl Tryz.underlying72 rfl) ?_
  refine X.dTake 2 rfl (by kernel_rfl) (by kernel_rfl) (by kernel_rfl) (X.dwN rfl) (fun w' hk' => X.move (v := .slice _ _ _) rfl) ?_
  refine X.dTake 3 rfl (by kernel_rfl) (by kernel_rfl) (by kernel_rfl) (X.dwN rfl) (fun w' hk' => X.lenSl Tryz.underlying72 rfl) ?_
  refine X.dTake 4 rfl (by kernel_rfl) (by kernel_rfl) (by kernel_rfl) (X.dwN rfl) (fun w' hk' => X.neI rfl rfl) ?_
  refine X.dTake 5 rfl (by kernel_rfl) (by kernel_rfl) (by kernel_rfl) (X.dwN rfl) (fun w' hk' => X.move (v := .bool _) rfl) ?_
  refine X.dFork 37 rfl (fun h37 => ?_) (fun h37 => ?_)
  · exact absurd rfl (of_decide_eq_true h37)
  · refine X.dTake 6 rfl (by kernel_rfl) (by kernel_rfl) (by kernel_rfl) (X.dwG rfl rfl rfl) (fun w' hk' => X.move rfl) ?_
    refine X.dTake 7 rfl (by kernel_rfl) (by kernel_rfl) (by kernel_rfl) (X.dwG rfl rfl rfl) (fun w' hk' => X.nilCk rfl) ?_
    refine X.dTake 8 rfl (by kernel_rfl) (by kernel_rfl) (by kernel_rfl) (X.dwG rfl rfl rfl) (fun w' hk' => X.fldB (j := 0) Tryz.underlying29 rfl rfl Tryz.sizeOf26 rfl) ?_
    refine X.dTake 9 rfl (by kernel_rfl) (by kernel_rfl) (by kernel_rfl) (X.dwG rfl rfl rfl) (fun w' hk' => X.load1B Tryz.isAgg26 (hP.keep ((((hk1.trans hk2).trans hk3).trans hk4).trans hk')) rfl rfl) ?_
    refine X.dTake 11 rfl (by kernel_rfl) (by kernel_rfl) (by kernel_rfl) (X.dwG rfl rfl rfl) (fun w' hk' => X.move rfl) ?_
    refine X.dTake 12 rfl (by kernel_rfl) (by kernel_rfl) (by kernel_rfl) (X.dwG rfl rfl rfl) (fun w' hk' => X.nilCk rfl) ?_
    refine X.dTake 13 rfl (by kernel_rfl) (by kernel_rfl) (by kernel_rfl) (X.dwG rfl rfl rfl) (fun w' hk' => X.fldB (j := 1) Tryz.underlying29 rfl rfl Tryz.sizeOf27 rfl) ?_
    refine X.dTake 14 rfl (by kernel_rfl) (by kernel_rfl) (by kernel_rfl) (X.dwG rfl rfl rfl) (fun w' hk' => X.load1B Tryz.isAgg27 (hP.keep ((((hk1.trans hk2).trans hk3).trans hk4).trans hk')) rfl rfl) ?_
    refine X.dE (i := 10) (by kernel_rfl) rfl (X.dwG rfl rfl rfl) (X.callE (downR_c (h.keep (((hk1.trans hk2).trans hk3).trans hk4)).D) Tryz.call36 rfl rfl) (by rintro _ w5 ⟨rfl, hk5⟩ _; exact hk5.mono (fun _ _ h => h.elim)) ?_
    rintro _ w5 ⟨rfl, hk5⟩
    have hk5' := hk5.size
    refine X.dE (i := 15) (by kernel_rfl) rfl (X.dwG rfl rfl rfl) (X.callE (downT_c (h.keep ((((hk1.trans hk2).trans hk3).trans hk4).trans hk5))) Tryz.call37 rfl rfl) (by rintro _ w6 ⟨rfl, hk6⟩ _; exact hk6.mono (fun _ _ h => h.elim)) ?_
    rintro _ w6 ⟨rfl, hk6⟩
    have hk6' := hk6.size
    refine X.dTake 16 rfl (by kernel_rfl) (by kernel_rfl) (by kernel_rfl) (X.dwG rfl rfl rfl) (fun w' hk' => X.neB Tryz.underlying4 rfl rfl) ?_
    refine X.dTake 17 rfl (by kernel_rfl) (by kernel_rfl) (by kernel_rfl) (X.dwN rfl) (fun w' hk' => X.pickF (v := .bool _) rfl rfl) ?_
    refine X.dEnd (by kernel_rfl) ?_
    refine X.condB rfl (fun hc49 => ?_) (fun hc49 => ?_)
    · simp at hc49
    · refine X.skip ?_
      refine X.seq ?_
      refine X.seq ?_
      refine X.region ?_
      refine X.opw X.wN rfl (X.assign rfl) ?_
      refine X.opsEnd ?_
      refine X.block ?_
      have h3L := (hs2.keep (((hk3.trans hk4).trans hk5).trans hk6))
      have h4L := (hs3.keep ((hk4.trans hk5).trans hk6))
      have hPL := (hP.keep (((((hk1.trans hk2).trans hk3).trans hk4).trans hk5).trans hk6))
      have hTL := h.keep (((((hk1.trans hk2).trans hk3).trans hk4).trans hk5).trans hk6)
      have hkL := (((((hk1.trans hk2).trans hk3).trans hk4).trans hk5).trans hk6)
      refine X.loopL (σ := Nat) (fun i => [(0, ptrV p), (3, .slice A2 s.dir.length c2), (4, .slice A3 s.dir.length c3), (5, .int .i64 (i : Int))]) (fun i w' => i ≤ s.dir.length ∧ Keep w6 w') (fun i => s.dir.length - i) 0 ⟨rfl, rfl, rfl, rfl, trivial⟩ ⟨by omega, Keep.refl _⟩ ?_
      rintro i bi wi ⟨hi, hki⟩ hback
      refine X.seq ?_
      refine X.seq ?_
      refine X.region ?_
      refine X.opw X.wN rfl (X.move (v := .int .i64 _) rfl) ?_
      refine X.opw X.wN rfl (X.move (v := .slice _ _ _) rfl) ?_
      refine X.opw X.wN rfl (X.lenSl Tryz.underlying72 rfl) ?_
      refine X.opP X.wN rfl rfl (X.lss rfl rfl) (fun h53 => ?_) (fun h53 => ?_)
      · obtain ⟨nm, hnm⟩ : ∃ nm, (t.dir.map (·.1))[i]? = some nm := ⟨_, List.getElem?_eq_getElem (by rw [List.length_map, h.tie.dlen hok]; omega)⟩
        have hrg := sizeOf_rng hok nm
        refine X.opsEnd ?_
        refine X.condT rfl ?_
        refine X.skip ?_
        refine X.seq ?_
        refine X.block ?_
        refine X.seq ?_
        refine X.regionD (fun _ => False) 13 (by kernel_rfl) (by kernel_rfl) (fun w7 hk7 hz7 => ?_)
        refine X.dTake 0 rfl (by kernel_rfl) (by kernel_rfl) (by kernel_rfl) (X.dwN rfl) (fun w' hk' => X.move rfl) ?_
        refine X.dTake 1 rfl (by kernel_rfl) (by kernel_rfl) (by kernel_rfl) (X.dwN rfl) (fun w' hk' => X.nilCk rfl) ?_
        refine X.dTake 2 rfl (by kernel_rfl) (by kernel_rfl) (by kernel_rfl) (X.dwN rfl) (fun w' hk' => X.fldB (j := 0) Tryz.underlying29 rfl rfl Tryz.sizeOf26 rfl) ?_
        refine X.dTake 3 rfl (by kernel_rfl) (by kernel_rfl) (by kernel_rfl) (X.dwN rfl) (fun w' hk' => X.load1B Tryz.isAgg26 (hPL.keep ((hki.trans hk7).trans hk')) rfl rfl) ?_
        refine X.dTake 4 rfl (by kernel_rfl) (by kernel_rfl) (by kernel_rfl) (X.dwN rfl) (fun w' hk' => X.move (v := .slice _ _ _) rfl) ?_
        refine X.dTake 5 rfl (by kernel_rfl) (by kernel_rfl) (by kernel_rfl) (X.dwN rfl) (fun w' hk' => X.move (v := .int .i64 _) rfl) ?_
        refine X.dTake 6 rfl (by kernel_rfl) (by kernel_rfl) (by kernel_rfl) (X.dwN rfl) (fun w' hk' => X.idxS (h4L.keep ((hki.trans hk7).trans hk')) Tryz.underlying72 Tryz.sizeOf9 rfl rfl ⟨by omega, by omega⟩) ?_
        refine X.dTake 7 rfl (by kernel_rfl) (by kernel_rfl) (by kernel_rfl) (X.dwN rfl) (fun w' hk' => X.loadS Tryz.isAgg9 (h4L.keep ((hki.trans hk7).trans hk')) hnm rfl (fun _ h => by rw [h.1]; rfl)) ?_
        refine X.dE (i := 8) (by kernel_rfl) rfl (X.dwN rfl) (X.callE (sizeR_c (hTL.keep (hki.trans hk7)).D hok nm) Tryz.call38 rfl rfl) (by rintro _ w8 ⟨rfl, hk8⟩ _; exact hk8.mono (fun _ _ h => h.elim)) ?_
        rintro _ w8 ⟨rfl, hk8⟩
        have hk8' := hk8.size
        refine X.dTake 9 rfl (by kernel_rfl) (by kernel_rfl) (by kernel_rfl) (X.dwN rfl) (fun w' hk' => X.move rfl) ?_
        refine X.dTake 10 rfl (by kernel_rfl) (by kernel_rfl) (by kernel_rfl) (X.dwN rfl) (fun w' hk' => X.extr rfl rfl) ?_
        refine X.dTake 11 rfl (by kernel_rfl) (by kernel_rfl) (by kernel_rfl) (X.dwN rfl) (fun w' hk' => X.extr rfl rfl) ?_
        refine X.dTake 12 rfl (by kernel_rfl) (by kernel_rfl) (by kernel_rfl) (X.dwN rfl) (fun w' hk' => X.assign (v := .int .i64 _) rfl) ?_
        refine X.dStep (i := 13) (by kernel_rfl) rfl (X.dwN rfl) (X.assign (v := .int .i64 _) rfl) (fun h => absurd h (by decide)) ?_
        refine X.dEnd (by kernel_rfl) ?_
        refine X.seq ?_
        refine X.regionD (fun _ => False) 13 (by kernel_rfl) (by kernel_rfl) (fun w9 hk9 hz9 => ?_)
        refine X.dTake 0 rfl (by kernel_rfl) (by kernel_rfl) (by kernel_rfl) (X.dwN rfl) (fun w' hk' => X.move rfl) ?_
        refine X.dTake 1 rfl (by kernel_rfl) (by kernel_rfl) (by kernel_rfl) (X.dwN rfl) (fun w' hk' => X.nilCk rfl) ?_
        refine X.dTake 2 rfl (by kernel_rfl) (by kernel_rfl) (by kernel_rfl) (X.dwN rfl) (fun w' hk' => X.fldB (j := 1) Tryz.underlying29 rfl rfl Tryz.sizeOf27 rfl) ?_
        refine X.dTake 3 rfl (by kernel_rfl) (by kernel_rfl) (by kernel_rfl) (X.dwN rfl) (fun w' hk' => X.load1B Tryz.isAgg27 (hPL.keep ((((hki.trans hk7).trans hk8).trans hk9).trans hk')) rfl rfl) ?_
        refine X.dTake 4 rfl (by kernel_rfl) (by kernel_rfl) (by kernel_rfl) (X.dwN rfl) (fun w' hk' => X.move (v := .slice _ _ _) rfl) ?_
        refine X.dTake 5 rfl (by kernel_rfl) (by kernel_rfl) (by kernel_rfl) (X.dwN rfl) (fun w' hk' => X.move (v := .int .i64 _) rfl) ?_
        refine X.dTake 6 rfl (by kernel_rfl) (by kernel_rfl) (by kernel_rfl) (X.dwN rfl) (fun w' hk' => X.idxS (h4L.keep ((((hki.trans hk7).trans hk8).trans hk9).trans hk')) Tryz.underlying72 Tryz.sizeOf9 rfl rfl ⟨by omega, by omega⟩) ?_
        refine X.dTake 7 rfl (by kernel_rfl) (by kernel_rfl) (by kernel_rfl) (X.dwN rfl) (fun w' hk' => X.loadS Tryz.isAgg9 (h4L.keep ((((hki.trans hk7).trans hk8).trans hk9).trans hk')) hnm rfl (fun _ h => by rw [h.1]; rfl)) ?_
        refine X.dE (i := 8) (by kernel_rfl) rfl (X.dwN rfl) (X.callE (sizeT_c nm (hTL.keep (((hki.trans hk7).trans hk8).trans hk9)) hm) Tryz.call39 rfl rfl) (by rintro _ w10 ⟨rfl, hk10⟩ _; exact hk10.mono (fun _ _ h => h.elim)) ?_
        rintro _ w10 ⟨rfl, hk10⟩
        have hk10' := hk10.size
        refine X.dTake 9 rfl (by kernel_rfl) (by kernel_rfl) (by kernel_rfl) (X.dwN rfl) (fun w' hk' => X.move rfl) ?_
        refine X.dTake 10 rfl (by kernel_rfl) (by kernel_rfl) (by kernel_rfl) (X.dwN rfl) (fun w' hk' => X.extr rfl rfl) ?_
        refine X.dTake 11 rfl (by kernel_rfl) (by kernel_rfl) (by kernel_rfl) (X.dwN rfl) (fun w' hk' => X.extr rfl rfl) ?_
        refine X.dTake 12 rfl (by kernel_rfl) (by kernel_rfl) (by kernel_rfl) (X.dwN rfl) (fun w' hk' => X.assign (v := .int .i64 _) rfl) ?_
        refine X.dStep (i := 13) (by kernel_rfl) rfl (X.dwN rfl) (X.assign (v := .int .i64 _) rfl) (fun h => absurd h (by decide)) ?_
        refine X.dEnd (by kernel_rfl) ?_
        refine X.seq ?_
        refine X.seq ?_
        refine X.regionD (fun _ => False) 19 (by kernel_rfl) (by kernel_rfl) (fun w11 hk11 hz11 => ?_)
        refine X.dTake 0 rfl (by kernel_rfl) (by kernel_rfl) (by kernel_rfl) (X.dwN rfl) (fun w' hk' => X.move (v := .slice _ _ _) rfl) ?_
        refine X.dTake 1 rfl (by kernel_rfl) (by kernel_rfl) (by kernel_rfl) (X.dwN rfl) (fun w' hk' => X.move (v := .int .i64 _) rfl) ?_
        refine X.dTake 2 rfl (by kernel_rfl) (by kernel_rfl) (by kernel_rfl) (X.dwN rfl) (fun w' hk' => X.idxS (h3L.keep ((((((hki.trans hk7).trans hk8).trans hk9).trans hk10).trans hk11).trans hk')) Tryz.underlying72 Tryz.sizeOf9 rfl rfl ⟨by omega, by omega⟩) ?_
        refine X.dTake 3 rfl (by kernel_rfl) (by kernel_rfl) (by kernel_rfl) (X.dwN rfl) (fun w' hk' => X.loadS Tryz.isAgg9 (h3L.keep ((((((hki.trans hk7).trans hk8).trans hk9).trans hk10).trans hk11).trans hk')) hnm rfl (fun _ h => by rw [h.1]; rfl)) ?_
        refine X.dTake 4 rfl (by kernel_rfl) (by kernel_rfl) (by kernel_rfl) (X.dwN rfl) (fun w' hk' => X.move (v := .slice _ _ _) rfl) ?_
        refine X.dTake 5 rfl (by kernel_rfl) (by kernel_rfl) (by kernel_rfl) (X.dwN rfl) (fun w' hk' => X.move (v := .int .i64 _) rfl) ?_
        refine X.dTake 6 rfl (by kernel_rfl) (by kernel_rfl) (by kernel_rfl) (X.dwN rfl) (fun w' hk' => X.idxS (h4L.keep ((((((hki.trans hk7).trans hk8).trans hk9).trans hk10).trans hk11).trans hk')) Tryz.underlying72 Tryz.sizeOf9 rfl rfl ⟨by omega, by omega⟩) ?_
        refine X.dTake 7 rfl (by kernel_rfl) (by kernel_rfl) (by kernel_rfl) (X.dwN rfl) (fun w' hk' => X.loadS Tryz.isAgg9 (h4L.keep ((((((hki.trans hk7).trans hk8).trans hk9).trans hk10).trans hk11).trans hk')) hnm rfl (fun _ h => by rw [h.1]; rfl)) ?_
        refine X.dTake 8 rfl (by kernel_rfl) (by kernel_rfl) (by kernel_rfl) (X.dwN rfl) (fun w' hk' => X.neD rfl rfl) ?_
        refine X.dTake 9 rfl (by kernel_rfl) (by kernel_rfl) (by kernel_rfl) (X.dwN rfl) (fun w' hk' => X.move (v := .bool _) rfl) ?_
        refine X.dFork 89 rfl (fun h89 => ?_) (fun h89 => ?_)
        · exact absurd rfl (of_decide_eq_true h89)
        · refine X.dTake 10 rfl (by kernel_rfl) (by kernel_rfl) (by kernel_rfl) (X.dwG rfl rfl rfl) (fun w' hk' => X.move (v := .int .i64 _) rfl) ?_
          refine X.dTake 11 rfl (by kernel_rfl) (by kernel_rfl) (by kernel_rfl) (X.dwG rfl rfl rfl) (fun w' hk' => X.move (v := .int .i64 _) rfl) ?_
          refine X.dTake 12 rfl (by kernel_rfl) (by kernel_rfl) (by kernel_rfl) (X.dwG rfl rfl rfl) (fun w' hk' => X.neI rfl rfl) ?_
          refine X.dTake 13 rfl (by kernel_rfl) (by kernel_rfl) (by kernel_rfl) (X.dwN rfl) (fun w' hk' => X.pickF (v := .bool _) rfl rfl) ?_
          refine X.dTake 14 rfl (by kernel_rfl) (by kernel_rfl) (by kernel_rfl) (X.dwN rfl) (fun w' hk' => X.move (v := .bool _) rfl) ?_
          refine X.dFork 94 rfl (fun h94 => ?_) (fun h94 => ?_)
          · exact absurd rfl (of_decide_eq_true h94)
          · refine X.dTake 15 rfl (by kernel_rfl) (by kernel_rfl) (by kernel_rfl) (X.dwG rfl rfl rfl) (fun w' hk' => X.move (v := .int .i64 _) rfl) ?_
            refine X.dTake 16 rfl (by kernel_rfl) (by kernel_rfl) (by kernel_rfl) (X.dwG rfl rfl rfl) (fun w' hk' => X.move (v := .int .i64 _) rfl) ?_
            refine X.dTake 17 rfl (by kernel_rfl) (by kernel_rfl) (by kernel_rfl) (X.dwG rfl rfl rfl) (fun w' hk' => X.neI rfl rfl) ?_
            refine X.dTake 18 rfl (by kernel_rfl) (by kernel_rfl) (by kernel_rfl) (X.dwN rfl) (fun w' hk' => X.pickF (v := .bool _) rfl rfl) ?_
            refine X.dEnd (by kernel_rfl) ?_
            refine X.condB rfl (fun hc98 => ?_) (fun hc98 => ?_)
            · simp at hc98
            · refine X.skip ?_
              refine X.seq ?_
              refine X.regionD (fun _ => False) 14 (by kernel_rfl) (by kernel_rfl) (fun w12 hk12 hz12 => ?_)
              refine X.dTake 0 rfl (by kernel_rfl) (by kernel_rfl) (by kernel_rfl) (X.dwN rfl) (fun w' hk' => X.move rfl) ?_
              refine X.dTake 1 rfl (by kernel_rfl) (by kernel_rfl) (by kernel_rfl) (X.dwN rfl) (fun w' hk' => X.nilCk rfl) ?_
              refine X.dTake 2 rfl (by kernel_rfl) (by kernel_rfl) (by kernel_rfl) (X.dwN rfl) (fun w' hk' => X.fldB (j := 0) Tryz.underlying29 rfl rfl Tryz.sizeOf26 rfl) ?_
              refine X.dTake 3 rfl (by kernel_rfl) (by kernel_rfl) (by kernel_rfl) (X.dwN rfl) (fun w' hk' => X.load1B Tryz.isAgg26 (hPL.keep (((((((hki.trans hk7).trans hk8).trans hk9).trans hk10).trans hk11).trans hk12).trans hk')) rfl rfl) ?_
              refine X.dTake 4 rfl (by kernel_rfl) (by kernel_rfl) (by kernel_rfl) (X.dwN rfl) (fun w' hk' => X.move (v := .slice _ _ _) rfl) ?_
              refine X.dTake 5 rfl (by kernel_rfl) (by kernel_rfl) (by kernel_rfl) (X.dwN rfl) (fun w' hk' => X.move (v := .int .i64 _) rfl) ?_
              refine X.dTake 6 rfl (by kernel_rfl) (by kernel_rfl) (by kernel_rfl) (X.dwN rfl) (fun w' hk' => X.idxS (h4L.keep (((((((hki.trans hk7).trans hk8).trans hk9).trans hk10).trans hk11).trans hk12).trans hk')) Tryz.underlying72 Tryz.sizeOf9 rfl rfl ⟨by omega, by omega⟩) ?_
              refine X.dTake 7 rfl (by kernel_rfl) (by kernel_rfl) (by kernel_rfl) (X.dwN rfl) (fun w' hk' => X.loadS Tryz.isAgg9 (h4L.keep (((((((hki.trans hk7).trans hk8).trans hk9).trans hk10).trans hk11).trans hk12).trans hk')) hnm rfl (fun _ h => by rw [h.1]; rfl)) ?_
              refine X.dTake 8 rfl (by kernel_rfl) (by kernel_rfl) (by kernel_rfl) (X.dwN rfl) (fun w' hk' => X.move (v := .int .i64 _) rfl) ?_
              refine X.dE (i := 9) (by kernel_rfl) rfl (X.dwN rfl) (X.callE (readD_c nm 0 _ (hTL.keep ((((((hki.trans hk7).trans hk8).trans hk9).trans hk10).trans hk11).trans hk12)) ⟨by decide, by decide, by omega, by omega⟩) Tryz.call16 rfl rfl) (by rintro _ w13 ⟨A13, c13, rfl, hs13, hk13⟩ _; exact hk13.mono (fun _ _ h => h.elim)) ?_
              rintro _ w13 ⟨A13, c13, rfl, hs13, hk13⟩
              have hk13' := hk13.size
              refine X.dTake 10 rfl (by kernel_rfl) (by kernel_rfl) (by kernel_rfl) (X.dwN rfl) (fun w' hk' => X.move rfl) ?_
              refine X.dTake 11 rfl (by kernel_rfl) (by kernel_rfl) (by kernel_rfl) (X.dwN rfl) (fun w' hk' => X.extr rfl rfl) ?_
              refine X.dTake 12 rfl (by kernel_rfl) (by kernel_rfl) (by kernel_rfl) (X.dwN rfl) (fun w' hk' => X.extr rfl rfl) ?_
              refine X.dTake 13 rfl (by kernel_rfl) (by kernel_rfl) (by kernel_rfl) (X.dwN rfl) (fun w' hk' => X.assign (v := .slice _ _ _) rfl) ?_
              refine X.dStep (i := 14) (by kernel_rfl) rfl (X.dwN rfl) (X.assign (v := .int .i64 _) rfl) (fun h => absurd h (by decide)) ?_
              refine X.dEnd (by kernel_rfl) ?_
              refine X.seq ?_
              refine X.regionD (fun _ => False) 14 (by kernel_rfl) (by kernel_rfl) (fun w14 hk14 hz14 => ?_)
              refine X.dTake 0 rfl (by kernel_rfl) (by kernel_rfl) (by kernel_rfl) (X.dwN rfl) (fun w' hk' => X.move rfl) ?_
              refine X.dTake 1 rfl (by kernel_rfl) (by kernel_rfl) (by kernel_rfl) (X.dwN rfl) (fun w' hk' => X.nilCk rfl) ?_
              refine X.dTake 2 rfl (by kernel_rfl) (by kernel_rfl) (by kernel_rfl) (X.dwN rfl) (fun w' hk' => X.fldB (j := 1) Tryz.underlying29 rfl rfl Tryz.sizeOf27 rfl) ?_
              refine X.dTake 3 rfl (by kernel_rfl) (by kernel_rfl) (by kernel_rfl) (X.dwN rfl) (fun w' hk' => X.load1B Tryz.isAgg27 (hPL.keep (((((((((hki.trans hk7).trans hk8).trans hk9).trans hk10).trans hk11).trans hk12).trans hk13).trans hk14).trans hk')) rfl rfl) ?_
              refine X.dTake 4 rfl (by kernel_rfl) (by kernel_rfl) (by kernel_rfl) (X.dwN rfl) (fun w' hk' => X.move (v := .slice _ _ _) rfl) ?_
              refine X.dTake 5 rfl (by kernel_rfl) (by kernel_rfl) (by kernel_rfl) (X.dwN rfl) (fun w' hk' => X.move (v := .int .i64 _) rfl) ?_
              refine X.dTake 6 rfl (by kernel_rfl) (by kernel_rfl) (by kernel_rfl) (X.dwN rfl) (fun w' hk' => X.idxS (h4L.keep (((((((((hki.trans hk7).trans hk8).trans hk9).trans hk10).trans hk11).trans hk12).trans hk13).trans hk14).trans hk')) Tryz.underlying72 Tryz.sizeOf9 rfl rfl ⟨by omega, by omega⟩) ?_
              refine X.dTake 7 rfl (by kernel_rfl) (by kernel_rfl) (by kernel_rfl) (X.dwN rfl) (fun w' hk' => X.loadS Tryz.isAgg9 (h4L.keep (((((((((hki.trans hk7).trans hk8).trans hk9).trans hk10).trans hk11).trans hk12).trans hk13).trans hk14).trans hk')) hnm rfl (fun _ h => by rw [h.1]; rfl)) ?_
              refine X.dTake 8 rfl (by kernel_rfl) (by kernel_rfl) (by kernel_rfl) (X.dwN rfl) (fun w' hk' => X.move (v := .int .i64 _) rfl) ?_
              refine X.dE (i := 9) (by kernel_rfl) rfl (X.dwN rfl) (X.callE (readT_c nm 0 _ (hTL.keep ((((((((hki.trans hk7).trans hk8).trans hk9).trans hk10).trans hk11).trans hk12).trans hk13).trans hk14)) hm ⟨by decide, by decide, by omega, by omega⟩) Tryz.call40 rfl rfl) (by rintro _ w15 ⟨A15, c15, rfl, hs15, hk15⟩ _; exact hk15.mono (fun _ _ h => h.elim)) ?_
              rintro _ w15 ⟨A15, c15, rfl, hs15, hk15⟩
              have hk15' := hk15.size
              refine X.dTake 10 rfl (by kernel_rfl) (by kernel_rfl) (by kernel_rfl) (X.dwN rfl) (fun w' hk' => X.move rfl) ?_
              refine X.dTake 11 rfl (by kernel_rfl) (by kernel_rfl) (by kernel_rfl) (X.dwN rfl) (fun w' hk' => X.extr rfl rfl) ?_
              refine X.dTake 12 rfl (by kernel_rfl) (by kernel_rfl) (by kernel_rfl) (X.dwN rfl) (fun w' hk' => X.extr rfl rfl) ?_
              refine X.dTake 13 rfl (by kernel_rfl) (by kernel_rfl) (by kernel_rfl) (X.dwN rfl) (fun w' hk' => X.assign (v := .slice _ _ _) rfl) ?_
              refine X.dStep (i := 14) (by kernel_rfl) rfl (X.dwN rfl) (X.assign (v := .int .i64 _) rfl) (fun h => absurd h (by decide)) ?_
              refine X.dEnd (by kernel_rfl) ?_
              refine X.seq ?_
              refine X.region ?_
              refine X.opw X.wN rfl (X.move (v := .slice _ _ _) rfl) ?_
              refine X.opw X.wN rfl (X.str Tryz.underlying31 Tryz.underlying5 Tryz.underlying9 rfl KB_is rfl (hs13.keep (hk14.trans hk15))) ?_
              refine X.opw X.wN rfl (X.move (v := .slice _ _ _) rfl) ?_
              refine X.opw X.wN rfl (X.str Tryz.underlying31 Tryz.underlying5 Tryz.underlying9 rfl KB_is rfl hs15) ?_
              refine X.opP X.wN rfl rfl (X.neD rfl rfl) (fun h129 => ?_) (fun h129 => ?_)
              · exact absurd rfl h129
              · refine X.opw X.wN rfl (X.move (v := .bool false) rfl) ?_
                refine X.opw (X.wG rfl rfl rfl) rfl (X.move (v := .int .i64 _) rfl) ?_
                refine X.opw (X.wG rfl rfl rfl) rfl (X.move (v := .int .i64 _) rfl) ?_
                refine X.opP (X.wG rfl rfl rfl) rfl rfl (X.neI rfl rfl) (fun h133 => ?_) (fun h133 => ?_)
                · exact absurd rfl h133
                · refine X.opw X.wN rfl (X.pickF (v := .bool false) rfl rfl) ?_
                  refine X.opsEnd ?_
                  refine X.condF rfl ?_
                  refine X.skip ?_
                  refine X.inBlock ?_
                  refine X.region ?_
                  refine X.opw X.wN rfl (X.move (v := .int .i64 _) rfl) ?_
                  refine X.opw X.wN rfl (X.add rfl rfl (X.w_i64 (by omega))) ?_
                  refine X.opw X.wN rfl (X.assign (v := .int .i64 _) rfl) ?_
                  refine X.opsEnd ?_
                  refine hback (i + 1) _ _ ⟨rfl, rfl, rfl, rfl, trivial⟩ ⟨by omega, (((((((((hki.trans hk7).trans hk8).trans hk9).trans hk10).trans hk11).trans hk12).trans hk13).trans hk14).trans hk15)⟩ (by omega)
      · refine X.opsEnd ?_
        refine X.condF rfl ?_
        refine X.exit rfl ?_
        refine X.seq ?_
        refine X.region ?_
        refine X.opw X.wN rfl (X.move rfl) ?_
        refine X.opw X.wN rfl (X.nilCk rfl) ?_
        refine X.opw X.wN rfl (X.fldB (j := 0) Tryz.underlying29 rfl rfl Tryz.sizeOf26 rfl) ?_
        refine X.opw X.wN rfl (X.load1B Tryz.isAgg26 (hPL.keep hki) rfl rfl) ?_
        refine X.opE X.wN rfl (X.callE (UsedR_c (hTL.keep hki).D hok) Tryz.call8 rfl rfl) ?_
        rintro _ w16 ⟨rfl, hk16⟩
        have hk16' := hk16.size
        refine X.opw X.wN rfl (X.move rfl) ?_
        refine X.opw X.wN rfl (X.extr rfl rfl) ?_
        refine X.opw X.wN rfl (X.extr rfl rfl) ?_
        refine X.opw X.wN rfl (X.assign (v := .int .i64 _) rfl) ?_
        refine X.opw X.wN rfl (X.assign (v := .int .i64 _) rfl) ?_
        refine X.opsEnd ?_
        refine X.seq ?_
        refine X.region ?_
        refine X.opw X.wN rfl (X.move rfl) ?_
        refine X.opw X.wN rfl (X.nilCk rfl) ?_
        refine X.opw X.wN rfl (X.fldB (j := 0) Tryz.underlying29 rfl rfl Tryz.sizeOf26 rfl) ?_
        refine X.opw X.wN rfl (X.load1B Tryz.isAgg26 (hPL.keep (hki.trans hk16)) rfl rfl) ?_
        refine X.opE X.wN rfl (X.callE (looseR_c (hTL.keep (hki.trans hk16)).D hok (by have := h.sz; omega)) Tryz.call14 rfl rfl) ?_
        rintro _ w17 ⟨rfl, hk17⟩
        have hk17' := hk17.size
        refine X.opw X.wN rfl (X.move rfl) ?_
        refine X.opw X.wN rfl (X.extr rfl rfl) ?_
        refine X.opw X.wN rfl (X.extr rfl rfl) ?_
        refine X.opw X.wN rfl (X.extr rfl rfl) ?_
        refine X.opw X.wN rfl (X.assign (v := .int .i64 _) rfl) ?_
        refine X.opw X.wN rfl (X.assign (v := .int .i64 _) rfl) ?_
        refine X.opw X.wN rfl (X.assign (v := .int .i64 _) rfl) ?_
        refine X.opsEnd ?_
        refine X.seq ?_
        refine X.region ?_
        refine X.opw X.wN rfl (X.move rfl) ?_
        refine X.opw X.wN rfl (X.nilCk rfl) ?_
        refine X.opw X.wN rfl (X.fldB (j := 1) Tryz.underlying29 rfl rfl Tryz.sizeOf27 rfl) ?_
        refine X.opw X.wN rfl (X.load1B Tryz.isAgg27 (hPL.keep ((hki.trans hk16).trans hk17)) rfl rfl) ?_
        refine X.opE X.wN rfl (X.callE (looseT_c (hTL.keep ((hki.trans hk16).trans hk17)) hm) Tryz.call41 rfl rfl) ?_
        rintro _ w18 ⟨rfl, hk18⟩
        have hk18' := hk18.size
        refine X.opw X.wN rfl (X.move rfl) ?_
        refine X.opw X.wN rfl (X.extr rfl rfl) ?_
        refine X.opw X.wN rfl (X.extr rfl rfl) ?_
        refine X.opw X.wN rfl (X.extr rfl rfl) ?_
        refine X.opw X.wN rfl (X.assign (v := .int .i64 _) rfl) ?_
        refine X.opw X.wN rfl (X.assign (v := .int .i64 _) rfl) ?_
        refine X.opw X.wN rfl (X.assign (v := .int .i64 _) rfl) ?_
        refine X.opsEnd ?_
        refine X.seq ?_
        refine X.region ?_
        refine X.opw X.wN rfl (X.move (v := .int .i64 _) rfl) ?_
        refine X.opw X.wN rfl (X.move rfl) ?_
        refine X.opw X.wN rfl (X.nilCk rfl) ?_
        refine X.opw X.wN rfl (X.fldB (j := 1) Tryz.underlying29 rfl rfl Tryz.sizeOf27 rfl) ?_
        refine X.opw X.wN rfl (X.load1B Tryz.isAgg27 (hPL.keep (((hki.trans hk16).trans hk17).trans hk18)) rfl rfl) ?_
        refine X.opE X.wN rfl (X.callE (usedT_c (hTL.keep (((hki.trans hk16).trans hk17).trans hk18)) hm) Tryz.call42 rfl rfl) ?_
        rintro _ w19 ⟨rfl, hk19⟩
        have hk19' := hk19.size
        refine X.opP X.wN rfl rfl (X.eqI rfl rfl) (fun h167 => ?_) (fun h167 => ?_)
        · refine X.opw X.wN rfl (X.move (v := .bool true) rfl) ?_
          refine X.opw (X.wG rfl rfl rfl) rfl (X.move (v := .int .i64 _) rfl) ?_
          refine X.opw (X.wG rfl rfl rfl) rfl (X.move rfl) ?_
          refine X.opw (X.wG rfl rfl rfl) rfl (X.nilCk rfl) ?_
          refine X.opw (X.wG rfl rfl rfl) rfl (X.fldB (j := 1) Tryz.underlying29 rfl rfl Tryz.sizeOf27 rfl) ?_
          refine X.opw (X.wG rfl rfl rfl) rfl (X.load1B Tryz.isAgg27 (hPL.keep ((((hki.trans hk16).trans hk17).trans hk18).trans hk19)) rfl rfl) ?_
          refine X.opw (X.wG rfl rfl rfl) rfl (X.nilCk rfl) ?_
          refine X.opw (X.wG rfl rfl rfl) rfl (X.fldB (j := 0) Tryz.underlying83 rfl rfl Tryz.sizeOf3 rfl) ?_
          refine X.opw (X.wG rfl rfl rfl) rfl (X.load1B Tryz.isAgg3 ((hXB.keep hkL).keep ((((hki.trans hk16).trans hk17).trans hk18).trans hk19)) rfl rfl) ?_
          refine X.opP (X.wG rfl rfl rfl) rfl rfl (X.eqI rfl rfl) (fun h177 => ?_) (fun h177 => ?_)
          · refine X.opw X.wN rfl (X.pickT (v := .bool true) rfl rfl) ?_
            refine X.opw X.wN rfl (X.move (v := .bool true) rfl) ?_
            refine X.opw (X.wG rfl rfl rfl) rfl (X.move (v := .int .i64 _) rfl) ?_
            refine X.opw (X.wG rfl rfl rfl) rfl (X.move (v := .int .i64 _) rfl) ?_
            refine X.opP (X.wG rfl rfl rfl) rfl rfl (X.eqI rfl rfl) (fun h182 => ?_) (fun h182 => ?_)
            · refine X.opw X.wN rfl (X.pickT (v := .bool true) rfl rfl) ?_
              refine X.opw X.wN rfl (X.move (v := .bool true) rfl) ?_
              refine X.opw (X.wG rfl rfl rfl) rfl (X.move (v := .int .i64 _) rfl) ?_
              refine X.opw (X.wG rfl rfl rfl) rfl (X.move (v := .int .i64 _) rfl) ?_
              refine X.opP (X.wG rfl rfl rfl) rfl rfl (X.eqI rfl rfl) (fun h187 => ?_) (fun h187 => ?_)
              · refine X.opw X.wN rfl (X.pickT (v := .bool true) rfl rfl) ?_
                refine X.opw X.wN rfl (X.move (v := .bool true) rfl) ?_
                refine X.opw (X.wG rfl rfl rfl) rfl (X.move (v := .int .i64 _) rfl) ?_
                refine X.opw (X.wG rfl rfl rfl) rfl (X.move (v := .int .i64 _) rfl) ?_
                refine X.opw (X.wG rfl rfl rfl) rfl (X.eqI rfl rfl) ?_
                refine X.opw X.wN rfl (X.pickT (v := .bool _) rfl rfl) ?_
                refine X.opw X.wN rfl (X.assign (v := .bool _) rfl) ?_
                refine X.opsEnd ?_
                refine X.ret1 (v := (.bool _)) Tryz.func9 Tryz.results9 rfl ?_
                exact ⟨by first | rfl | exact congrArg Value.bool (decide_eq_true rfl), hkL.trans ((((hki.trans hk16).trans hk17).trans hk18).trans hk19)⟩
              · exact absurd rfl h187
            · exact absurd rfl h182
          · rw [h.tie.rm] at h177; exact absurd rfl h177
        · exact absurd rfl h167
end Go.Proofs.YtcdebnppbnmmgaaGreat

namespace Go.Proofs.YtcdebnppbnmmgaaGreat
open Go Go.Proofs.YtcdebnppbnmmgaaGreat.X
set_option linter.unusedVariables false
set_option linter.unusedSimpArgs false
set_option maxHeartbeats 4000000 in
set_option maxRecDepth 100000 in
theorem cut_c {y1 y4 y6 : Int} {nm to : ByteArray} {A A2 A3 : Option Addr} {n c n2 c2 n3 c3 lo hi : Nat} {xs : List UInt8} {w0 : World} (w : World) (hnc : n ≤ c) (hnc2 : n2 ≤ c2) (hnc3 : n3 ≤ c3) (hs : Sl KB lo hi w0 A n xs) : Ret Tryz.prog 6 #[.agg #[.int .i64 y1, .string nm, .string to, .int .i64 y4, .slice A n c, .int .i64 y6, .slice A2 n2 c2, .slice A3 n3 c3]] w fun r w' => ∃ nm' to' n' n2' n3', r = .agg #[.int .i64 y1, .string nm', .string to', .int .i64 y4, .slice A n' c, .int .i64 y6, .slice A2 n2' c2, .slice A3 n3' c3] ∧ nm'.size ≤ 65 ∧ to'.size ≤ 65 ∧ (n' ≤ 400 ∧ n' ≤ c ∧ ∃ xs', Sl KB lo hi w0 A n' xs') ∧ Keep w w' := by
  refine X.enter Tryz.func6 rfl Tryz.ntmps6 rfl ?_
  refine X.seq ?_
  refine X.region ?_
  refine X.opE X.wN rfl (X.boxE rfl rfl) ?_
  rintro _ w1 ⟨rfl, hB1, hk1, hz1⟩
  refine X.opE X.wN rfl (X.allocE Tryz.zeroValue36 rfl) ?_
  rintro _ w2 ⟨rfl, hB2, hk2, hz2⟩
  refine X.opsEnd ?_
  refine X.seq ?_
  have hkA := (hk1.trans hk2)
  have hB2 := hB2
  refine X.joinW (σ := ByteArray) (fun s => [(1, .pointer (some ⟨w.heap.size, 0, none⟩)), (2, .pointer (some ⟨w1.heap.size, 0, none⟩))]) (fun s w' => s.size ≤ 65 ∧ Blk w' w.heap.size [.int .i64 y1, .string s, .string to, .int .i64 y4, .slice A n c, .int .i64 y6, .slice A2 n2 c2, .slice A3 n3 c3] 36 ∧ Ext (fun q => q = w.heap.size) w2 w') (fun hjoin => ?_) ?_
  · refine X.seq ?_
    refine X.region ?_
    refine X.opw X.wN rfl (X.fldB (j := 1) Tryz.underlying36 rfl rfl Tryz.sizeOf9 rfl) ?_
    refine X.opw X.wN rfl (X.load1B Tryz.isAgg9 (hB1.keep hk2) rfl rfl) ?_
    refine X.opw X.wN rfl (X.lenS Tryz.underlying9 rfl) ?_
    refine X.opP X.wN rfl rfl (X.gtr rfl rfl) (fun h6 => ?_) (fun h6 => ?_)
    · refine X.opsEnd ?_
      refine X.condT rfl ?_
      refine X.region ?_
      refine X.opw X.wN rfl (X.fldB (j := 1) Tryz.underlying36 rfl rfl Tryz.sizeOf9 rfl) ?_
      refine X.opw X.wN rfl (X.load1B Tryz.isAgg9 (hB1.keep hk2) rfl rfl) ?_
      refine X.opw X.wN rfl (X.cutSH Tryz.underlying9 rfl rfl ⟨by omega, by omega⟩) ?_
      refine X.opw X.wN rfl (X.fldB (j := 1) Tryz.underlying36 rfl rfl Tryz.sizeOf9 rfl) ?_
      refine X.opE X.wN rfl (X.storeE Tryz.sizeOf9 (hB1.keep hk2) rfl rfl rfl rfl) ?_
      rintro _ w3 ⟨hB3, hx3, hz3⟩
      refine X.opsEnd ?_
      refine hjoin (nm.extract 0 65) _ _ ⟨rfl, rfl, trivial⟩ ⟨by rw [ByteArray.size_extract]; omega, hB3, (Ext.andThen (Ext.refl (fun q => q = w.heap.size) w2) hx3 (by intro q h1 h2; exact h2))⟩
    · refine X.opsEnd ?_
      refine X.condF rfl ?_
      refine X.skip ?_
      refine hjoin nm _ _ ⟨rfl, rfl, trivial⟩ ⟨by omega, (hB1.keep hk2), (Ext.refl (fun q => q = w.heap.size) w2)⟩
  rintro nm' b1 wj1 ⟨hn1, hBj1, hj1⟩
  refine X.seq ?_
  refine X.joinW (σ := ByteArray) (fun s => [(1, .pointer (some ⟨w.heap.size, 0, none⟩)), (2, .pointer (some ⟨w1.heap.size, 0, none⟩))]) (fun s w' => s.size ≤ 65 ∧ Blk w' w.heap.size [.int .i64 y1, .string nm', .string s, .int .i64 y4, .slice A n c, .int .i64 y6, .slice A2 n2 c2, .slice A3 n3 c3] 36 ∧ Ext (fun q => q = w.heap.size) w2 w') (fun hjoin => ?_) ?_
  · refine X.seq ?_
    refine X.region ?_
    refine X.opw X.wN rfl (X.fldB (j := 2) Tryz.underlying36 rfl rfl Tryz.sizeOf9 rfl) ?_
    refine X.opw X.wN rfl (X.load1B Tryz.isAgg9 hBj1 rfl rfl) ?_
    refine X.opw X.wN rfl (X.lenS Tryz.underlying9 rfl) ?_
    refine X.opP X.wN rfl rfl (X.gtr rfl rfl) (fun h14 => ?_) (fun h14 => ?_)
    · refine X.opsEnd ?_
      refine X.condT rfl ?_
      refine X.region ?_
      refine X.opw X.wN rfl (X.fldB (j := 2) Tryz.underlying36 rfl rfl Tryz.sizeOf9 rfl) ?_
      refine X.opw X.wN rfl (X.load1B Tryz.isAgg9 hBj1 rfl rfl) ?_
      refine X.opw X.wN rfl (X.cutSH Tryz.underlying9 rfl rfl ⟨by omega, by omega⟩) ?_
      refine X.opw X.wN rfl (X.fldB (j := 2) Tryz.underlying36 rfl rfl Tryz.sizeOf9 rfl) ?_
      refine X.opE X.wN rfl (X.storeE Tryz.sizeOf9 hBj1 rfl rfl rfl rfl) ?_
      rintro _ w4 ⟨hB4, hx4, hz4⟩
      refine X.opsEnd ?_
      refine hjoin (to.extract 0 65) _ _ ⟨rfl, rfl, trivial⟩ ⟨by rw [ByteArray.size_extract]; omega, hB4, (Ext.andThen (Ext.andThen (Ext.refl (fun q => q = w.heap.size) w2) hj1 (by intro q h1 h2; exact h2)) hx4 (by intro q h1 h2; exact h2))⟩
    · refine X.opsEnd ?_
      refine X.condF rfl ?_
      refine X.skip ?_
      refine hjoin to _ _ ⟨rfl, rfl, trivial⟩ ⟨by omega, hBj1, (Ext.andThen (Ext.refl (fun q => q = w.heap.size) w2) hj1 (by intro q h1 h2; exact h2))⟩
  rintro to' b2 wj2 ⟨hn2, hBj2, hj2⟩
  refine X.seq ?_
  refine X.joinW (σ := Nat) (fun s => [(1, .pointer (some ⟨w.heap.size, 0, none⟩)), (2, .pointer (some ⟨w1.heap.size, 0, none⟩))]) (fun s w' => (s ≤ 400 ∧ s ≤ c ∧ ∃ xs', Sl KB lo hi w0 A s xs') ∧ Blk w' w.heap.size [.int .i64 y1, .string nm', .string to', .int .i64 y4, .slice A s c, .int .i64 y6, .slice A2 n2 c2, .slice A3 n3 c3] 36 ∧ Ext (fun q => q = w.heap.size) w2 w') (fun hjoin => ?_) ?_
  · refine X.seq ?_
    refine X.region ?_
    refine X.opw X.wN rfl (X.fldB (j := 4) Tryz.underlying36 rfl rfl Tryz.sizeOf31 rfl) ?_
    refine X.opw X.wN rfl (X.load1B Tryz.isAgg31 hBj2 rfl rfl) ?_
    refine X.opw X.wN rfl (X.lenSl Tryz.underlying31 rfl) ?_
    refine X.opP X.wN rfl rfl (X.gtr rfl rfl) (fun h22 => ?_) (fun h22 => ?_)
    · refine X.opsEnd ?_
      refine X.condT rfl ?_
      refine X.region ?_
      refine X.opw X.wN rfl (X.fldB (j := 4) Tryz.underlying36 rfl rfl Tryz.sizeOf31 rfl) ?_
      refine X.opw X.wN rfl (X.load1B Tryz.isAgg31 hBj2 rfl rfl) ?_
      refine X.opw X.wN rfl (X.cutHr Tryz.underlying31 Tryz.sizeOf5 rfl rfl (by omega)) ?_
      refine X.opw X.wN rfl (X.fldB (j := 4) Tryz.underlying36 rfl rfl Tryz.sizeOf31 rfl) ?_
      refine X.opE X.wN rfl (X.storeE Tryz.sizeOf31 hBj2 rfl rfl rfl rfl) ?_
      rintro _ w5 ⟨hB5, hx5, hz5⟩
      refine X.opsEnd ?_
      refine hjoin 400 _ _ ⟨rfl, rfl, trivial⟩ ⟨⟨by omega, by omega, _, hs.take 400 (by omega)⟩, hB5, (Ext.andThen (Ext.andThen (Ext.refl (fun q => q = w.heap.size) w2) hj2 (by intro q h1 h2; exact h2)) hx5 (by intro q h1 h2; exact h2))⟩
    · refine X.opsEnd ?_
      refine X.condF rfl ?_
      refine X.skip ?_
      refine hjoin n _ _ ⟨rfl, rfl, trivial⟩ ⟨⟨by omega, hnc, _, hs⟩, hBj2, (Ext.andThen (Ext.refl (fun q => q = w.heap.size) w2) hj2 (by intro q h1 h2; exact h2))⟩
  rintro n' b3 wj3 ⟨hn3, hBj3, hj3⟩
  refine X.seq ?_
  refine X.joinW (σ := Nat) (fun s => [(1, .pointer (some ⟨w.heap.size, 0, none⟩)), (2, .pointer (some ⟨w1.heap.size, 0, none⟩))]) (fun s w' => s ≤ c2 ∧ Blk w' w.heap.size [.int .i64 y1, .string nm', .string to', .int .i64 y4, .slice A n' c, .int .i64 y6, .slice A2 s c2, .slice A3 n3 c3] 36 ∧ Ext (fun q => q = w.heap.size) w2 w') (fun hjoin => ?_) ?_
  · refine X.seq ?_
    refine X.region ?_
    refine X.opw X.wN rfl (X.fldB (j := 5) Tryz.underlying36 rfl rfl Tryz.sizeOf34 rfl) ?_
    refine X.opw X.wN rfl (X.fldB (j := 6) Tryz.underlying34 rfl rfl Tryz.sizeOf32 rfl) ?_
    refine X.opw X.wN rfl (X.load1B Tryz.isAgg32 hBj3 rfl rfl) ?_
    refine X.opw X.wN rfl (X.lenSl Tryz.underlying32 rfl) ?_
    refine X.opP X.wN rfl rfl (X.gtr rfl rfl) (fun h31 => ?_) (fun h31 => ?_)
    · refine X.opsEnd ?_
      refine X.condT rfl ?_
      refine X.region ?_
      refine X.opw X.wN rfl (X.fldB (j := 5) Tryz.underlying36 rfl rfl Tryz.sizeOf34 rfl) ?_
      refine X.opw X.wN rfl (X.fldB (j := 6) Tryz.underlying34 rfl rfl Tryz.sizeOf32 rfl) ?_
      refine X.opw X.wN rfl (X.load1B Tryz.isAgg32 hBj3 rfl rfl) ?_
      refine X.opw X.wN rfl (X.cutHr Tryz.underlying32 Tryz.sizeOf4 rfl rfl (by omega)) ?_
      refine X.opw X.wN rfl (X.fldB (j := 5) Tryz.underlying36 rfl rfl Tryz.sizeOf34 rfl) ?_
      refine X.opw X.wN rfl (X.fldB (j := 6) Tryz.underlying34 rfl rfl Tryz.sizeOf32 rfl) ?_
      refine X.opE X.wN rfl (X.storeE Tryz.sizeOf32 hBj3 rfl rfl rfl rfl) ?_
      rintro _ w6 ⟨hB6, hx6, hz6⟩
      refine X.opsEnd ?_
      refine hjoin 200 _ _ ⟨rfl, rfl, trivial⟩ ⟨by omega, hB6, (Ext.andThen (Ext.andThen (Ext.refl (fun q => q = w.heap.size) w2) hj3 (by intro q h1 h2; exact h2)) hx6 (by intro q h1 h2; exact h2))⟩
    · refine X.opsEnd ?_
      refine X.condF rfl ?_
      refine X.skip ?_
      refine hjoin n2 _ _ ⟨rfl, rfl, trivial⟩ ⟨hnc2, hBj3, (Ext.andThen (Ext.refl (fun q => q = w.heap.size) w2) hj3 (by intro q h1 h2; exact h2))⟩
  rintro n2' b4 wj4 ⟨hn4, hBj4, hj4⟩
  refine X.seq ?_
  refine X.joinW (σ := Nat) (fun s => [(1, .pointer (some ⟨w.heap.size, 0, none⟩)), (2, .pointer (some ⟨w1.heap.size, 0, none⟩))]) (fun s w' => s ≤ c3 ∧ Blk w' w.heap.size [.int .i64 y1, .string nm', .string to', .int .i64 y4, .slice A n' c, .int .i64 y6, .slice A2 n2' c2, .slice A3 s c3] 36 ∧ Ext (fun q => q = w.heap.size) w2 w') (fun hjoin => ?_) ?_
  · refine X.seq ?_
    refine X.region ?_
    refine X.opw X.wN rfl (X.fldB (j := 5) Tryz.underlying36 rfl rfl Tryz.sizeOf34 rfl) ?_
    refine X.opw X.wN rfl (X.fldB (j := 7) Tryz.underlying34 rfl rfl Tryz.sizeOf32 rfl) ?_
    refine X.opw X.wN rfl (X.load1B Tryz.isAgg32 hBj4 rfl rfl) ?_
    refine X.opw X.wN rfl (X.lenSl Tryz.underlying32 rfl) ?_
    refine X.opP X.wN rfl rfl (X.gtr rfl rfl) (fun h42 => ?_) (fun h42 => ?_)
    · refine X.opsEnd ?_
      refine X.condT rfl ?_
      refine X.region ?_
      refine X.opw X.wN rfl (X.fldB (j := 5) Tryz.underlying36 rfl rfl Tryz.sizeOf34 rfl) ?_
      refine X.opw X.wN rfl (X.fldB (j := 7) Tryz.underlying34 rfl rfl Tryz.sizeOf32 rfl) ?_
      refine X.opw X.wN rfl (X.load1B Tryz.isAgg32 hBj4 rfl rfl) ?_
      refine X.opw X.wN rfl (X.cutHr Tryz.underlying32 Tryz.sizeOf4 rfl rfl (by omega)) ?_
      refine X.opw X.wN rfl (X.fldB (j := 5) Tryz.underlying36 rfl rfl Tryz.sizeOf34 rfl) ?_
      refine X.opw X.wN rfl (X.fldB (j := 7) Tryz.underlying34 rfl rfl Tryz.sizeOf32 rfl) ?_
      refine X.opE X.wN rfl (X.storeE Tryz.sizeOf32 hBj4 rfl rfl rfl rfl) ?_
      rintro _ w7 ⟨hB7, hx7, hz7⟩
      refine X.opsEnd ?_
      refine hjoin 50 _ _ ⟨rfl, rfl, trivial⟩ ⟨by omega, hB7, (Ext.andThen (Ext.andThen (Ext.refl (fun q => q = w.heap.size) w2) hj4 (by intro q h1 h2; exact h2)) hx7 (by intro q h1 h2; exact h2))⟩
    · refine X.opsEnd ?_
      refine X.condF rfl ?_
      refine X.skip ?_
      refine hjoin n3 _ _ ⟨rfl, rfl, trivial⟩ ⟨hnc3, hBj4, (Ext.andThen (Ext.refl (fun q => q = w.heap.size) w2) hj4 (by intro q h1 h2; exact h2))⟩
  rintro n3' b5 wj5 ⟨hn5, hBj5, hj5⟩
  refine X.seq ?_
  refine X.region ?_
  refine X.opw X.wN rfl (X.loadNB Tryz.isAgg36 Tryz.sizeOf36 hBj5 rfl rfl rfl) ?_
  refine X.opE X.wN rfl (X.storeNE Tryz.sizeOf36 (hB2.ext hj5 (by intros; (try simp only []); omega)) rfl rfl rfl rfl (fun u hu => by simp at hu; rcases hu with rfl | rfl | rfl | rfl | rfl | rfl | rfl | rfl <;> rfl)) ?_
  rintro _ w8 ⟨hB8, hx8, hz8⟩
  refine X.opsEnd ?_
  refine X.ret_unw (X.unwR1 Tryz.func6 Tryz.results6 (X.ResOk.cell rfl (X.lvN Tryz.isAgg36 Tryz.sizeOf36 hB8 rfl)) ?_)
  exact ⟨_, _, _, _, _, rfl, hn1, hn2, hn3, ((hkA.step hj5 (by intro q g1; have g1 : q = _ := g1; omega)).step hx8 (by intro q g1; have g1 : q = _ := g1; omega))⟩
set_option maxHeartbeats 4000000 in
set_option maxRecDepth 100000 in
theorem RNew_c (rm : Int) (w : World) (hrm : 1 ≤ rm ∧ rm ≤ 1048576) : Ret Tryz.prog 11 #[.int .i64 rm] w fun r w' => r = .tuple #[ptrV w.heap.size, .int .i64 0] ∧ Blk w' w.heap.size [.int .i64 rm, .slice none 0 0, .slice none 0 0, .slice none 0 0, .slice none 0 0, .bool false, .int .i64 0] 83 ∧ Keep w w' := by
  refine X.enter Tryz.func11 rfl Tryz.ntmps11 rfl ?_
  refine X.seq ?_
  refine X.region ?_
  refine X.opw X.wN rfl (X.assign rfl) ?_
  refine X.opw X.wN rfl (X.assign rfl) ?_
  refine X.opsEnd ?_
  refine X.seq ?_
  refine X.seq ?_
  refine X.region ?_
  refine X.opw X.wN rfl (X.move (v := .int .i64 _) rfl) ?_
  refine X.opP X.wN rfl rfl (X.lss rfl rfl) (fun h5 => ?_) (fun h5 => ?_)
  · exact absurd h5 (by omega)
  · refine X.opw X.wN rfl (X.move (v := .bool false) rfl) ?_
    refine X.opw (X.wG rfl rfl rfl) rfl (X.move (v := .int .i64 _) rfl) ?_
    refine X.opP (X.wG rfl rfl rfl) rfl rfl (X.gtr rfl rfl) (fun h8 => ?_) (fun h8 => ?_)
    · exact absurd h8 (by omega)
    · refine X.opw X.wN rfl (X.pickF (v := .bool false) rfl rfl) ?_
      refine X.opsEnd ?_
      refine X.condF rfl ?_
      refine X.skip ?_
      refine X.seq ?_
      refine X.region ?_
      refine X.opw X.wN rfl (X.move (v := .int .i64 _) rfl) ?_
      refine X.opw X.wN rfl (X.buildB (vs := [(0, .int .i64 rm)]) (cs := #[.int .i64 rm, .slice none 0 0, .slice none 0 0, .slice none 0 0, .slice none 0 0, .bool false, .int .i64 0]) rfl (by kernel_rfl)) ?_
      refine X.opE X.wN rfl (X.boxE rfl rfl) ?_
      rintro _ w1 ⟨rfl, hB1, hk1, hz1⟩
      refine X.opw X.wN rfl (X.assign rfl) ?_
      refine X.opw X.wN rfl (X.assign rfl) ?_
      refine X.opsEnd ?_
      refine X.ret2 (v2 := (.int .i64 _)) Tryz.func11 Tryz.results11 rfl rfl ?_
      exact ⟨rfl, hB1, hk1⟩
abbrev KLo : Kd (Int × List Bool × List Bool) := Kd.pair KI (Kd.pair (Kd.slice KBo) (Kd.slice KBo))
abbrev KOp : Kd (Int × ByteArray × ByteArray × Int × List UInt8 × Int × List Bool × List Bool) := Kd.pair KI (Kd.pair KS (Kd.pair KS (Kd.pair KI (Kd.pair (Kd.slice KB) KLo))))
theorem op_at {w : World} {lo hi : Nat} {A : Option Addr} {n j : Nat} {ops : List (Int × ByteArray × ByteArray × Int × List UInt8 × Int × List Bool × List Bool)} (hS : Sl KOp lo hi w A n ops) (hj : j < n) : ∃ y1 nm to y4 Ab nb cb y6 A2 n2 c2 A3 n3 c3 xs, nb ≤ cb ∧ n2 ≤ c2 ∧ n3 ≤ c3 ∧ (-9223372036854775808 ≤ y4 ∧ y4 ≤ 9223372036854775807) ∧ Sl KB lo hi w Ab nb xs ∧
    ∀ i u, ([.int .i64 y1, .string nm, .string to, .int .i64 y4, .slice Ab nb cb, .int .i64 y6, .slice A2 n2 c2, .slice A3 n3 c3] : List Value)[i]? = some u → w.cell? (((A.getD default).add (j * 8)).add i) = some u := by
  obtain ⟨y, hy⟩ : ∃ y, ops[j]? = some y := ⟨ops[j]'(by rw [hS.len]; exact hj), List.getElem?_eq_getElem _⟩
  obtain ⟨ad, cs, e, hr, hq⟩ := hS.get j y hy
  subst e
  obtain ⟨a1, r1, e, ⟨e1, _⟩, a2, r2, rfl, ⟨e2, _⟩, a3, r3, rfl, ⟨e3, _⟩, a4, r4, rfl, ⟨e4, h4⟩, a5, r5, rfl, ⟨A, n, c, e5, hc, hs⟩, a6, r6, rfl, ⟨e6, _⟩, a7, a8, rfl, ⟨A2, n2, c2, e7, hc2, _⟩, A3, n3, c3, e8, hc3, _⟩ := hr
  subst e1 e2 e3 e4 e5 e6 e7 e8 e
  exact ⟨_, _, _, _, _, _, _, _, _, _, _, _, _, _, _, hc, hc2, hc3, h4, hs, fun i u hu => by rw [add_add]; exact hq i u hu⟩
set_option maxHeartbeats 4000000 in
set_option maxRecDepth 100000 in
theorem RNew_bad (rm : Int) (w : World) (hrm : ¬ (1 ≤ rm ∧ rm ≤ 1048576)) : Ret Tryz.prog 11 #[.int .i64 rm] w fun r w' => r = .tuple #[.pointer none, .int .i64 1] ∧ Keep w w' := by
  refine X.enter Tryz.func11 rfl Tryz.ntmps11 rfl ?_
  refine X.seq ?_
  refine X.region ?_
  refine X.opw X.wN rfl (X.assign rfl) ?_
  refine X.opw X.wN rfl (X.assign rfl) ?_
  refine X.opsEnd ?_
  refine X.seq ?_
  refine X.seq ?_
  refine X.region ?_
  refine X.opw X.wN rfl (X.move (v := .int .i64 _) rfl) ?_
  refine X.opP X.wN rfl rfl (X.lss rfl rfl) (fun h5 => ?_) (fun h5 => ?_)
  · refine X.opw X.wN rfl (X.move (v := .bool true) rfl) ?_
    refine X.opS rfl rfl rfl rfl rfl ?_
    refine X.opS rfl rfl rfl rfl rfl ?_
    refine X.opw X.wN rfl (X.pickT (v := .bool true) rfl rfl) ?_
    refine X.opsEnd ?_
    refine X.condT rfl ?_
    refine X.seq ?_
    refine X.region ?_
    refine X.opw X.wN rfl (X.assign rfl) ?_
    refine X.opw X.wN rfl (X.assign rfl) ?_
    refine X.opsEnd ?_
    refine X.ret2 (v2 := (.int .i64 _)) Tryz.func11 Tryz.results11 rfl rfl ?_
    exact ⟨rfl, (Keep.refl _)⟩
  · refine X.opw X.wN rfl (X.move (v := .bool false) rfl) ?_
    refine X.opw (X.wG rfl rfl rfl) rfl (X.move (v := .int .i64 _) rfl) ?_
    refine X.opP (X.wG rfl rfl rfl) rfl rfl (X.gtr rfl rfl) (fun h8 => ?_) (fun h8 => ?_)
    · refine X.opw X.wN rfl (X.pickF (v := .bool true) rfl rfl) ?_
      refine X.opsEnd ?_
      refine X.condT rfl ?_
      refine X.seq ?_
      refine X.region ?_
      refine X.opw X.wN rfl (X.assign rfl) ?_
      refine X.opw X.wN rfl (X.assign rfl) ?_
      refine X.opsEnd ?_
      refine X.ret2 (v2 := (.int .i64 _)) Tryz.func11 Tryz.results11 rfl rfl ?_
      exact ⟨rfl, (Keep.refl _)⟩
    · exact absurd ⟨by omega, by omega⟩ hrm
theorem RkB_new {w : World} {x : Nat} {rm : Int} (hB : Blk w x [.int .i64 rm, .slice none 0 0, .slice none 0 0, .slice none 0 0, .slice none 0 0, .bool false, .int .i64 0] 83) : RkB (fun q => if q = x then 1 else 0) w x (.slice none 0 0) (.slice none 0 0) (.slice none 0 0) (.slice none 0 0) [] ⟨rm, [], [], [], [], false, 0⟩ :=
  ⟨hB, Mine.nil _ _ _ _ _ _, Mine.nil _ _ _ _ _ _, Mine.nil _ _ _ _ _ _, Mine.nil _ _ _ _ _ _, if_pos rfl, fun q hq => by
    by_cases e : q = x
    · subst e; exact hB.lt
    · exact absurd (if_neg e) hq, rfl, fun k p f h _ => by cases h⟩
theorem New_bad (rm : Int) (w : World) (hrm : ¬ (1 ≤ rm ∧ rm ≤ 1048576)) : Ret Tryz.prog 10 #[.int .i64 rm] w fun r w' => r = .tuple #[.pointer none, .int .i64 1] ∧ Keep w w' := by
  refine (New_c rm w).mono ?_
  rintro r w' (⟨_, h2, h3⟩ | ⟨h1, _⟩)
  · exact ⟨h2, h3⟩
  · omega
theorem Tie_new (rm : Int) : Tie (DS.mk0 rm [] [] []) ⟨rm, [], [], [], [], false, 0⟩ := ⟨rfl, rfl, rfl, rfl, rfl, fun k f g h _ => (by cases h), DirT.nil, DirT.nil, fun p hp => (by cases hp)⟩
set_option maxHeartbeats 4000000 in
set_option maxRecDepth 100000 in
theorem fresh1_c (rm : Int) (w : World) (hrm : 1 ≤ rm ∧ rm ≤ 1048576) : Ret Tryz.prog 4 #[.int .i64 rm] w fun r w' => ∃ p oD oX, r = .tuple #[ptrV p, .bool true] ∧ Blk w' p [.pointer oD, .pointer oX] 29 ∧ w.heap.size ≤ p ∧ Keep w w' ∧ ∃ b x ca cb s t, oD = some ⟨b, 0, none⟩ ∧ oX = some ⟨x, 0, none⟩ ∧ Tw w.heap.size ca cb w' b x 0 rm s t ∧ ca p = 0 ∧ cb p = 0 := by
  refine X.enter Tryz.func4 rfl Tryz.ntmps4 rfl ?_
  refine X.seq ?_
  refine X.region ?_
  refine X.opw X.wN rfl (X.assign rfl) ?_
  refine X.opw X.wN rfl (X.assign rfl) ?_
  refine X.opsEnd ?_
  refine X.seq ?_
  refine X.region ?_
  refine X.opw X.wN rfl (X.move (v := .int .i64 _) rfl) ?_
  refine X.opE X.wN rfl (X.callE (New_ok rm _ hrm) Tryz.call10 rfl rfl) ?_
  rintro _ w1 ⟨bd, bf, bdd, bx, bl, c0, rfl, hDk, hDc, hk1⟩
  have hR := hDk.r
  have hk1' := hk1.size
  refine X.opw X.wN rfl (X.move rfl) ?_
  refine X.opw X.wN rfl (X.extr rfl rfl) ?_
  refine X.opw X.wN rfl (X.extr rfl rfl) ?_
  refine X.opw X.wN rfl (X.assign rfl) ?_
  refine X.opw X.wN rfl (X.assign (v := .int .i64 _) rfl) ?_
  refine X.opsEnd ?_
  refine X.seq ?_
  refine X.region ?_
  refine X.opw X.wN rfl (X.move (v := .int .i64 _) rfl) ?_
  refine X.opE X.wN rfl (X.callE (RNew_c rm _ hrm) Tryz.call11 rfl rfl) ?_
  rintro _ w2 ⟨rfl, hXB, hk2⟩
  have hk2' := hk2.size
  refine X.opw X.wN rfl (X.move rfl) ?_
  refine X.opw X.wN rfl (X.extr rfl rfl) ?_
  refine X.opw X.wN rfl (X.extr rfl rfl) ?_
  refine X.opw X.wN rfl (X.assign rfl) ?_
  refine X.opw X.wN rfl (X.assign (v := .int .i64 _) rfl) ?_
  refine X.opsEnd ?_
  refine X.seq ?_
  refine X.region ?_
  refine X.opw X.wN rfl (X.move rfl) ?_
  refine X.opw X.wN rfl (X.move rfl) ?_
  refine X.opw X.wN rfl (X.buildB (vs := [(0, ptrV bd), (1, ptrV w1.heap.size)]) (cs := #[ptrV bd, ptrV w1.heap.size]) rfl (by kernel_rfl)) ?_
  refine X.opE X.wN rfl (X.boxE rfl rfl) ?_
  rintro _ w3 ⟨rfl, hB3, hk3, hz3⟩
  refine X.opw X.wN rfl (X.move (v := .int .i64 _) rfl) ?_
  refine X.opw X.wN rfl (X.move (v := .int .i64 _) rfl) ?_
  refine X.opw X.wN rfl (X.eqI rfl rfl) ?_
  refine X.opw X.wN rfl (X.move (v := .bool true) rfl) ?_
  refine X.opw (X.wG rfl rfl rfl) rfl (X.move rfl) ?_
  refine X.opw (X.wG rfl rfl rfl) rfl (X.eqPtrN (A := some _) Tryz.underlying26 rfl rfl) ?_
  refine X.opw (X.wG rfl rfl rfl) rfl (X.move rfl) ?_
  refine X.opw (X.wG rfl rfl rfl) rfl (X.eqPtrN (A := some _) Tryz.underlying27 rfl rfl) ?_
  refine X.opw (X.wG rfl rfl rfl) rfl (X.eqB Tryz.underlying4 rfl rfl) ?_
  refine X.opw X.wN rfl (X.pickT (v := .bool true) rfl rfl) ?_
  refine X.opw X.wN rfl (X.assign rfl) ?_
  refine X.opw X.wN rfl (X.assign (v := .bool true) rfl) ?_
  refine X.opsEnd ?_
  refine X.ret2 (v2 := (.bool _)) Tryz.func4 Tryz.results4 rfl rfl ?_
  have hT0 : Tw w.heap.size c0 (fun q => if q = w1.heap.size then 1 else 0) w3 bd w1.heap.size 0 rm (DS.mk0 rm [] [] []) ⟨rm, [], [], [], [], false, 0⟩ := ⟨((hR.keep hk2).keep hk3), (RkB_new (hXB.keep hk3)).r, fun q hq => if_neg (by have := hR.lt q hq; omega), Inv_new hrm, Fits_new hrm.1, Tie_new rm, Nat.le_refl _, fun q hq => ⟨Classical.byContradiction fun e => by have := hDc q e; omega, if_neg (by omega)⟩, by omega⟩
  have hpl := hB3.lt
  exact ⟨_, _, _, rfl, hB3, by omega, ((hk1.trans hk2).trans hk3), bd, w1.heap.size, c0, _, _, _, rfl, rfl, hT0, Classical.byContradiction fun e => by have := hR.lt _ e; omega, if_neg (by have := hXB.lt; omega)⟩
set_option maxHeartbeats 4000000 in
set_option maxRecDepth 100000 in
theorem fresh0_c (rm : Int) (w : World) (hrm : ¬ (1 ≤ rm ∧ rm ≤ 1048576)) : Ret Tryz.prog 4 #[.int .i64 rm] w fun r w' => ∃ p oD oX, r = .tuple #[ptrV p, .bool true] ∧ Blk w' p [.pointer oD, .pointer oX] 29 ∧ w.heap.size ≤ p ∧ Keep w w' ∧ oX = none := by
  refine X.enter Tryz.func4 rfl Tryz.ntmps4 rfl ?_
  refine X.seq ?_
  refine X.region ?_
  refine X.opw X.wN rfl (X.assign rfl) ?_
  refine X.opw X.wN rfl (X.assign rfl) ?_
  refine X.opsEnd ?_
  refine X.seq ?_
  refine X.region ?_
  refine X.opw X.wN rfl (X.move (v := .int .i64 _) rfl) ?_
  refine X.opE X.wN rfl (X.callE (New_bad rm _ hrm) Tryz.call10 rfl rfl) ?_
  rintro _ w1 ⟨rfl, hk1⟩
  have hk1' := hk1.size
  refine X.opw X.wN rfl (X.move rfl) ?_
  refine X.opw X.wN rfl (X.extr rfl rfl) ?_
  refine X.opw X.wN rfl (X.extr rfl rfl) ?_
  refine X.opw X.wN rfl (X.assign rfl) ?_
  refine X.opw X.wN rfl (X.assign (v := .int .i64 _) rfl) ?_
  refine X.opsEnd ?_
  refine X.seq ?_
  refine X.region ?_
  refine X.opw X.wN rfl (X.move (v := .int .i64 _) rfl) ?_
  refine X.opE X.wN rfl (X.callE (RNew_bad rm _ hrm) Tryz.call11 rfl rfl) ?_
  rintro _ w2 ⟨rfl, hk2⟩
  have hk2' := hk2.size
  refine X.opw X.wN rfl (X.move rfl) ?_
  refine X.opw X.wN rfl (X.extr rfl rfl) ?_
  refine X.opw X.wN rfl (X.extr rfl rfl) ?_
  refine X.opw X.wN rfl (X.assign rfl) ?_
  refine X.opw X.wN rfl (X.assign (v := .int .i64 _) rfl) ?_
  refine X.opsEnd ?_
  refine X.seq ?_
  refine X.region ?_
  refine X.opw X.wN rfl (X.move rfl) ?_
  refine X.opw X.wN rfl (X.move rfl) ?_
  refine X.opw X.wN rfl (X.buildB (vs := [(0, .pointer none), (1, .pointer none)]) (cs := #[.pointer none, .pointer none]) rfl (by kernel_rfl)) ?_
  refine X.opE X.wN rfl (X.boxE rfl rfl) ?_
  rintro _ w3 ⟨rfl, hB3, hk3, hz3⟩
  refine X.opw X.wN rfl (X.move (v := .int .i64 _) rfl) ?_
  refine X.opw X.wN rfl (X.move (v := .int .i64 _) rfl) ?_
  refine X.opw X.wN rfl (X.eqI rfl rfl) ?_
  refine X.opw X.wN rfl (X.move (v := .bool true) rfl) ?_
  refine X.opw (X.wG rfl rfl rfl) rfl (X.move rfl) ?_
  refine X.opw (X.wG rfl rfl rfl) rfl (X.eqPtrN (A := none) Tryz.underlying26 rfl rfl) ?_
  refine X.opw (X.wG rfl rfl rfl) rfl (X.move rfl) ?_
  refine X.opw (X.wG rfl rfl rfl) rfl (X.eqPtrN (A := none) Tryz.underlying27 rfl rfl) ?_
  refine X.opw (X.wG rfl rfl rfl) rfl (X.eqB Tryz.underlying4 rfl rfl) ?_
  refine X.opw X.wN rfl (X.pickT (v := .bool true) rfl rfl) ?_
  refine X.opw X.wN rfl (X.assign rfl) ?_
  refine X.opw X.wN rfl (X.assign (v := .bool true) rfl) ?_
  refine X.opsEnd ?_
  refine X.ret2 (v2 := (.bool _)) Tryz.func4 Tryz.results4 rfl rfl ?_
  exact ⟨_, _, _, rfl, hB3, by omega, ((hk1.trans hk2).trans hk3), rfl⟩
theorem freshW_c (rm : Int) (w : World) : Ret Tryz.prog 4 #[.int .i64 rm] w fun r w' => ∃ p oD oX, r = .tuple #[ptrV p, .bool true] ∧ Blk w' p [.pointer oD, .pointer oX] 29 ∧ w.heap.size ≤ p ∧ Keep w w' ∧ (oX = none ∨ ∃ b x ca cb s t, oD = some ⟨b, 0, none⟩ ∧ oX = some ⟨x, 0, none⟩ ∧ Tw w.heap.size ca cb w' b x 0 rm s t ∧ ca p = 0 ∧ cb p = 0) := by
  rcases Classical.em (1 ≤ rm ∧ rm ≤ 1048576) with hrm | hrm
  · exact (fresh1_c rm w hrm).mono fun r w' ⟨p, oD, oX, h1, h2, h3, h4, h5⟩ => ⟨p, oD, oX, h1, h2, h3, h4, .inr h5⟩
  · exact (fresh0_c rm w hrm).mono fun r w' ⟨p, oD, oX, h1, h2, h3, h4, h5⟩ => ⟨p, oD, oX, h1, h2, h3, h4, .inl h5⟩
end Go.Proofs.YtcdebnppbnmmgaaGreat

namespace Go.Proofs.YtcdebnppbnmmgaaGreat
open Go Go.Proofs.YtcdebnppbnmmgaaGreat.X
set_option linter.unusedVariables false
set_option linter.unusedSimpArgs false
theorem Tw.more {g b x m m' : Nat} {ca cb : Nat → Nat} {w : World} {r : Int} {s : DS} {t : RS} (h : Tw g ca cb w b x m r s t) (hm : m ≤ m') : Tw g ca cb w b x m' r s t := ⟨h.D, h.X, h.ap, h.inv, h.fit, h.tie, Nat.le_trans h.sz hm, h.lo, h.gw⟩
set_option maxHeartbeats 4000000 in
set_option maxRecDepth 100000 in
theorem DiskRoom_c (w : World) (a0 : Int) (ha0 : -9223372036854775808 ≤ a0 ∧ a0 ≤ 9223372036854775807) (A1 : Option Addr) (n1 c1 : Nat) (ops : List (Int × ByteArray × ByteArray × Int × List UInt8 × Int × List Bool × List Bool)) (hnc1 : n1 ≤ c1) (hs' : Sl KOp 0 w.heap.size w A1 n1 ops) : Ret Tryz.prog 3 #[.int .i64 a0, .slice A1 n1 c1] w fun r w' => r = .bool true ∧ Keep w w' := by
  refine X.enter Tryz.func3 rfl Tryz.ntmps3 rfl ?_
  refine X.seq ?_
  refine X.region ?_
  refine X.opw X.wN rfl (X.assign rfl) ?_
  refine X.opsEnd ?_
  refine X.seq ?_
  refine X.joinL (σ := Int) (fun s => [(0, .int .i64 s), (1, .slice A1 n1 c1)]) (fun s => True) (fun hjoin => ?_) ?_
  · refine X.seq ?_
    refine X.region ?_
    refine X.opw X.wN rfl (X.move (v := .int .i64 _) rfl) ?_
    refine X.opP X.wN rfl rfl (X.gtr rfl rfl) (fun h14 => ?_) (fun h14 => ?_)
    · refine X.opw X.wN rfl (X.move (v := .bool true) rfl) ?_
      refine X.opw (X.wG rfl rfl rfl) rfl (X.move (v := .int .i64 _) rfl) ?_
      refine X.opP (X.wG rfl rfl rfl) rfl rfl (X.leq rfl rfl) (fun h17 => ?_) (fun h17 => ?_)
      · refine X.opw X.wN rfl (X.pickT (v := .bool true) rfl rfl) ?_
        refine X.opsEnd ?_
        refine X.condT rfl ?_
        refine X.region ?_
        refine X.opw X.wN rfl (X.assign rfl) ?_
        refine X.opsEnd ?_
        refine hjoin 100 _ ⟨rfl, rfl, trivial⟩ trivial
      · refine X.opw X.wN rfl (X.pickT (v := .bool false) rfl rfl) ?_
        refine X.opsEnd ?_
        refine X.condF rfl ?_
        refine X.skip ?_
        refine hjoin a0 _ ⟨rfl, rfl, trivial⟩ trivial
    · refine X.opw X.wN rfl (X.move (v := .bool false) rfl) ?_
      refine X.opS rfl rfl rfl rfl rfl ?_
      refine X.opS rfl rfl rfl rfl rfl ?_
      refine X.opw X.wN rfl (X.pickF (v := .bool false) rfl rfl) ?_
      refine X.opsEnd ?_
      refine X.condF rfl ?_
      refine X.skip ?_
      refine hjoin a0 _ ⟨rfl, rfl, trivial⟩ trivial
  rintro rm b0 hI0
  refine X.seq ?_
  refine X.region ?_
  refine X.opw X.wN rfl (X.move (v := .int .i64 _) rfl) ?_
  refine X.opE X.wN rfl (X.callE (freshW_c rm _) Tryz.call4 rfl rfl) ?_
  rintro _ w1 ⟨p, oD, oX, rfl, hPB, hpg, hk1, hoX⟩
  have hk1' := hk1.size
  refine X.opw X.wN rfl (X.move rfl) ?_
  refine X.opw X.wN rfl (X.extr rfl rfl) ?_
  refine X.opw X.wN rfl (X.extr rfl rfl) ?_
  refine X.opw X.wN rfl (X.assign rfl) ?_
  refine X.opw X.wN rfl (X.assign (v := .bool true) rfl) ?_
  refine X.opsEnd ?_
  refine X.seq ?_
  refine X.seq ?_
  refine X.region ?_
  refine X.opw X.wN rfl (X.move (v := .bool true) rfl) ?_
  refine X.opw X.wN rfl (X.not_ rfl) ?_
  refine X.opw X.wN rfl (X.move (v := .bool false) rfl) ?_
  refine X.opw (X.wG rfl rfl rfl) rfl (X.move rfl) ?_
  refine X.opw (X.wG rfl rfl rfl) rfl (X.nilCk rfl) ?_
  refine X.opw (X.wG rfl rfl rfl) rfl (X.fldB (j := 1) Tryz.underlying29 rfl rfl Tryz.sizeOf27 rfl) ?_
  refine X.opw (X.wG rfl rfl rfl) rfl (X.load1B Tryz.isAgg27 hPB rfl rfl) ?_
  refine X.opw (X.wG rfl rfl rfl) rfl (X.eqPtrN (A := oX) Tryz.underlying27 rfl rfl) ?_
  refine X.opw X.wN rfl (X.pickF (v := .bool _) rfl rfl) ?_
  refine X.opsEnd ?_
  refine X.condB rfl (fun hc32 => ?_) (fun hc32 => ?_)
  · refine X.seq ?_
    refine X.region ?_
    refine X.opw X.wN rfl (X.move (v := .bool true) rfl) ?_
    refine X.opw X.wN rfl (X.move (v := .bool true) rfl) ?_
    refine X.opE (X.wG rfl rfl rfl) rfl (X.callE (alive_c _) Tryz.call5 rfl rfl) ?_
    rintro _ w2 ⟨rfl, hk2⟩
    have hk2' := hk2.size
    refine X.opw X.wN rfl (X.pickT (v := .bool _) rfl rfl) ?_
    refine X.opw X.wN rfl (X.assign (v := .bool _) rfl) ?_
    refine X.opsEnd ?_
    refine X.ret1 (v := (.bool _)) Tryz.func3 Tryz.results3 rfl ?_
    exact ⟨rfl, (hk1.trans hk2)⟩
  · obtain ⟨b, x, ca0, cb0', s0, t0, rfl, rfl, hT0, hp10, hp20⟩ := hoX.resolve_left (fun e => by rw [e] at hc32; simp at hc32)
    refine X.skip ?_
    refine X.seq ?_
    refine X.seq ?_
    refine X.region ?_
    refine X.opw X.wN rfl (X.assign rfl) ?_
    refine X.opsEnd ?_
    refine X.block ?_
    have hscL := (hs'.keep hk1)
    have hP7L := hPB
    have hkA : Keep w w1 := hk1
    refine X.loopL (σ := Nat) (fun i => [(0, .int .i64 rm), (1, .slice A1 n1 c1), (5, ptrV p), (7, .int .i64 (i : Int))]) (fun i w' => i ≤ 40 ∧ ∃ s t ca cb, Tw w.heap.size ca cb w' b x (2 * i) rm s t ∧ ca p = 0 ∧ cb p = 0 ∧ Blk w' p [ptrV b, ptrV x] 29 ∧ Ext (fun q => w.heap.size ≤ q) w1 w') (fun i => 40 - i) 0 ⟨rfl, rfl, rfl, rfl, trivial⟩ ⟨by omega, _, _, _, _, hT0, hp10, hp20, hP7L, Ext.refl _ _⟩ ?_
    rintro i bi wi ⟨hi, s, t, ca, cb, hT, hp1, hp2, hPi, hxi⟩ hback
    have hxi' := hxi.size
    have hPlt2 := hPi.lt
    refine X.seq ?_
    refine X.seq ?_
    refine X.region ?_
    refine X.opw X.wN rfl (X.move (v := .int .i64 _) rfl) ?_
    refine X.opw X.wN rfl (X.move (v := .slice _ _ _) rfl) ?_
    refine X.opw X.wN rfl (X.lenSl Tryz.underlying22 rfl) ?_
    refine X.opP X.wN rfl rfl (X.lss rfl rfl) (fun h40 => ?_) (fun h40 => ?_)
    · refine X.opw X.wN rfl (X.move (v := .bool true) rfl) ?_
      refine X.opw (X.wG rfl rfl rfl) rfl (X.move (v := .int .i64 _) rfl) ?_
      refine X.opP (X.wG rfl rfl rfl) rfl rfl (X.lss rfl rfl) (fun h43 => ?_) (fun h43 => ?_)
      · refine X.opw X.wN rfl (X.pickT (v := .bool true) rfl rfl) ?_
        refine X.opsEnd ?_
        refine X.condT rfl ?_
        refine X.skip ?_
        refine X.seq ?_
        refine X.block ?_
        refine X.seq ?_
        refine X.region ?_
        refine X.opw X.wN rfl (X.move (v := .slice _ _ _) rfl) ?_
        refine X.opw X.wN rfl (X.move (v := .int .i64 _) rfl) ?_
        refine X.opw X.wN rfl (X.idxS (hscL.ext hxi (by first | (intro q g1 g2 g3; first | (have g3 : _ ≤ q := g3; omega) | (have g3 : q = _ := g3; omega)) | (intro hh; first | (have hh : _ = _ := hh; omega) | (have hh : _ ≤ _ := hh; omega) | exact hh.elim (fun e => e hp1) (fun e => e hp2)))) Tryz.underlying22 Tryz.sizeOf36 rfl rfl ⟨by omega, by omega⟩) ?_
        obtain ⟨y1, nm0, to0, y4, Ab, nb, cb0, y6, Aa2, na2, ca2, Aa3, na3, ca3, xs0, hnb, hna2, hna3, hyr, hsb, hcell⟩ := op_at (j := i) (hscL.ext hxi (by first | (intro q g1 g2 g3; first | (have g3 : _ ≤ q := g3; omega) | (have g3 : q = _ := g3; omega)) | (intro hh; first | (have hh : _ = _ := hh; omega) | (have hh : _ ≤ _ := hh; omega) | exact hh.elim (fun e => e hp1) (fun e => e hp2)))) (by omega)
        refine X.opw X.wN rfl (X.loadN Tryz.isAgg36 Tryz.sizeOf36 rfl rfl hcell) ?_
        refine X.opE X.wN rfl (X.callE (cut_c (y1 := y1) (nm := nm0) (to := to0) (y4 := y4) (A := Ab) (n := nb) (c := cb0) (y6 := y6) (A2 := Aa2) (n2 := na2) (c2 := ca2) (A3 := Aa3) (n3 := na3) (c3 := ca3) _ hnb hna2 hna3 hsb) Tryz.call6 rfl rfl) ?_
        rintro _ w3 ⟨nm, to, nb', na2', na3', rfl, hn1, hn2, hn3, hk3⟩
        obtain ⟨hn31, hn32, xsB, hsB⟩ := hn3
        have hk3' := hk3.size
        refine X.opE X.wN rfl (X.allocE Tryz.zeroValue36 rfl) ?_
        rintro _ w4 ⟨rfl, hB4, hk4, hz4⟩
        refine X.opE X.wN rfl (X.storeNE Tryz.sizeOf36 hB4 rfl rfl rfl rfl (fun u hu => by simp at hu; rcases hu with rfl | rfl | rfl | rfl | rfl | rfl | rfl | rfl <;> rfl)) ?_
        rintro _ w5 ⟨hB5, hx5, hz5⟩
        refine X.opsEnd ?_
        refine X.seq ?_
        refine X.seq ?_
        refine X.region ?_
        refine X.opw X.wN rfl (X.fldB (j := 0) Tryz.underlying36 rfl rfl Tryz.sizeOf3 rfl) ?_
        refine X.opw X.wN rfl (X.load1B Tryz.isAgg3 hB5 rfl rfl) ?_
        refine X.opP X.wN rfl rfl (X.eqI rfl rfl) (fun h54 => ?_) (fun h54 => ?_)
        · refine X.opsEnd ?_
          refine X.condT rfl ?_
          refine X.exit rfl ?_
          refine X.region ?_
          refine X.opw X.wN rfl (X.move (v := .int .i64 _) rfl) ?_
          refine X.opw X.wN rfl (X.add rfl rfl (X.w_i64 (by omega))) ?_
          refine X.opw X.wN rfl (X.assign (v := .int .i64 _) rfl) ?_
          refine X.opsEnd ?_
          refine hback (i + 1) _ _ ⟨rfl, rfl, rfl, rfl, trivial⟩ ⟨by omega, s, t, ca, cb, ((((hT.keep hk3).keep hk4).ext hx5 (by intro q g1 g2; have g2 : q = _ := g2; exact g1.elim (fun e => by have := hT.D.lt q e; omega) (fun e => by have := RkR.lt hT.X q e; omega)))).more (by omega), hp1, hp2, (hPi.keep ((hk3.trans hk4).step hx5 (by intros; (try simp only [] at *); omega))), (Ext.andThen (Ext.andThen (Ext.andThen (Ext.andThen (Ext.refl (fun q => w.heap.size ≤ q) _) hxi (by intro q h1 h2; first | exact (h2 : False).elim | exact h2 | (have h2 : q = _ := h2; omega) | (refine Classical.byContradiction fun e => ?_; have hl := hT.lo q (by omega); exact h2.elim (fun e => e hl.1) (fun e => e hl.2)))) hk3 (by intro q h1 h2; first | exact (h2 : False).elim | exact h2 | (have h2 : q = _ := h2; omega) | (refine Classical.byContradiction fun e => ?_; have hl := hT.lo q (by omega); exact h2.elim (fun e => e hl.1) (fun e => e hl.2)))) hk4 (by intro q h1 h2; first | exact (h2 : False).elim | exact h2 | (have h2 : q = _ := h2; omega) | (refine Classical.byContradiction fun e => ?_; have hl := hT.lo q (by omega); exact h2.elim (fun e => e hl.1) (fun e => e hl.2)))) hx5 (by intro q h1 h2; first | exact (h2 : False).elim | exact h2 | (have h2 : q = _ := h2; omega) | (refine Classical.byContradiction fun e => ?_; have hl := hT.lo q (by omega); exact h2.elim (fun e => e hl.1) (fun e => e hl.2))))⟩ (by omega)
        · refine X.opsEnd ?_
          refine X.condF rfl ?_
          refine X.skip ?_
          refine X.seq ?_
          refine X.region ?_
          refine X.opw X.wN rfl (X.move rfl) ?_
          refine X.opw X.wN rfl (X.loadNB Tryz.isAgg36 Tryz.sizeOf36 hB5 rfl rfl rfl) ?_
          refine X.opE X.wN rfl (X.callE (act_c (cb0 := cb0) _ (((hT.keep hk3).keep hk4).ext hx5 (by intro q g1 g2; have g2 : q = _ := g2; exact g1.elim (fun e => by have := hT.D.lt q e; omega) (fun e => by have := RkR.lt hT.X q e; omega))) (by omega) (hPi.keep ((hk3.trans hk4).step hx5 (by intros; (try simp only [] at *); omega))) hp1 hp2 h54 hn1 hn2 hyr (hsB.ext (Ext.andThen (Ext.andThen (Ext.andThen (Ext.refl (fun q => w.heap.size ≤ q) _) hk3 (by intro q h1 h2; first | exact (h2 : False).elim | exact h2 | (have h2 : q = _ := h2; omega) | (refine Classical.byContradiction fun e => ?_; have hl := hT.lo q (by omega); exact h2.elim (fun e => e hl.1) (fun e => e hl.2)))) hk4 (by intro q h1 h2; first | exact (h2 : False).elim | exact h2 | (have h2 : q = _ := h2; omega) | (refine Classical.byContradiction fun e => ?_; have hl := hT.lo q (by omega); exact h2.elim (fun e => e hl.1) (fun e => e hl.2)))) hx5 (by intro q h1 h2; first | exact (h2 : False).elim | exact h2 | (have h2 : q = _ := h2; omega) | (refine Classical.byContradiction fun e => ?_; have hl := hT.lo q (by omega); exact h2.elim (fun e => e hl.1) (fun e => e hl.2)))) (by intro q _ g2 g3; first | exact (g3 : False).elim | (have g3 : _ ≤ q := g3; omega))) hn31) Tryz.call7 rfl rfl) ?_
          rintro _ w6 ⟨e, s', t', ca', cb', rfl, hT', hcc, hx6⟩
          have hq1 : ca' p = 0 := (hcc p (by omega)).1.trans hp1
          have hq2 : cb' p = 0 := (hcc p (by omega)).2.trans hp2
          have hx6' := hx6.size
          refine X.opw X.wN rfl (X.move rfl) ?_
          refine X.opw X.wN rfl (X.extr rfl rfl) ?_
          refine X.opw X.wN rfl (X.extr rfl rfl) ?_
          refine X.opw X.wN rfl (X.assign (v := .int .i64 _) rfl) ?_
          refine X.opw X.wN rfl (X.assign (v := .bool true) rfl) ?_
          refine X.opsEnd ?_
          refine X.seq ?_
          refine X.region ?_
          refine X.opw X.wN rfl (X.move rfl) ?_
          refine X.opw X.wN rfl (X.nilCk rfl) ?_
          refine X.opw X.wN rfl (X.fldB (j := 0) Tryz.underlying29 rfl rfl Tryz.sizeOf26 rfl) ?_
          refine X.opw X.wN rfl (X.load1B Tryz.isAgg26 ((hPi.keep ((hk3.trans hk4).step hx5 (by intros; (try simp only [] at *); omega))).ext hx6 (by first | (intro q g1 g2 g3; first | (have g3 : _ ≤ q := g3; omega) | (have g3 : q = _ := g3; omega)) | (intro hh; first | (have hh : _ = _ := hh; omega) | (have hh : _ ≤ _ := hh; omega) | exact hh.elim (fun e => e hp1) (fun e => e hp2)))) rfl rfl) ?_
          refine X.opE X.wN rfl (X.callE (UsedR_c hT'.D hT'.inv.ok) Tryz.call8 rfl rfl) ?_
          rintro _ w7 ⟨rfl, hk7⟩
          have hk7' := hk7.size
          refine X.opw X.wN rfl (X.move rfl) ?_
          refine X.opw X.wN rfl (X.extr rfl rfl) ?_
          refine X.opw X.wN rfl (X.extr rfl rfl) ?_
          refine X.opw X.wN rfl (X.assign (v := .int .i64 _) rfl) ?_
          refine X.opw X.wN rfl (X.assign (v := .int .i64 _) rfl) ?_
          refine X.opsEnd ?_
          refine X.seq ?_
          refine X.region ?_
          refine X.opw X.wN rfl (X.move (v := .bool true) rfl) ?_
          refine X.opw X.wN rfl (X.not_ rfl) ?_
          refine X.opw X.wN rfl (X.move (v := .bool false) rfl) ?_
          refine X.opw (X.wG rfl rfl rfl) rfl (X.move (v := .int .i64 _) rfl) ?_
          refine X.opw (X.wG rfl rfl rfl) rfl (X.move (v := .int .i64 _) rfl) ?_
          refine X.opP (X.wG rfl rfl rfl) rfl rfl (X.gtr rfl rfl) (fun h74 => ?_) (fun h74 => ?_)
          · have hf := hT'.fit.2; have hf1 := hT'.fit.1; omega
          · refine X.opw X.wN rfl (X.pickF (v := .bool false) rfl rfl) ?_
            refine X.opw X.wN rfl (X.move (v := .bool false) rfl) ?_
            refine X.opw (X.wG rfl rfl rfl) rfl (X.move (v := .int .i64 _) rfl) ?_
            refine X.opw (X.wG rfl rfl rfl) rfl (X.move (v := .int .i64 _) rfl) ?_
            refine X.opP (X.wG rfl rfl rfl) rfl rfl (X.neI rfl rfl) (fun h79 => ?_) (fun h79 => ?_)
            · exact absurd hT'.fit.1 h79
            · refine X.opw X.wN rfl (X.pickF (v := .bool false) rfl rfl) ?_
              refine X.opw X.wN rfl (X.move (v := .bool false) rfl) ?_
              refine X.opw (X.wG rfl rfl rfl) rfl (X.move (v := .int .i64 _) rfl) ?_
              refine X.opP (X.wG rfl rfl rfl) rfl rfl (X.eqI rfl rfl) (fun h83 => ?_) (fun h83 => ?_)
              · refine X.opw (X.wG rfl rfl rfl) rfl (X.move (v := .bool true) rfl) ?_
                refine X.opw (X.wG rfl rfl rfl) rfl (X.move rfl) ?_
                refine X.opE (X.wG rfl rfl rfl) rfl (X.callE (like_c _ (hT'.keep hk7) (by omega) (((hPi.keep ((hk3.trans hk4).step hx5 (by intros; (try simp only [] at *); omega))).ext hx6 (by first | (intro q g1 g2 g3; first | (have g3 : _ ≤ q := g3; omega) | (have g3 : q = _ := g3; omega)) | (intro hh; first | (have hh : _ = _ := hh; omega) | (have hh : _ ≤ _ := hh; omega) | exact hh.elim (fun e => e hp1) (fun e => e hp2)))).keep hk7)) Tryz.call9 rfl rfl) ?_
                rintro _ w8 ⟨rfl, hk8⟩
                have hk8' := hk8.size
                refine X.opw (X.wG rfl rfl rfl) rfl (X.not_ rfl) ?_
                refine X.opw (X.wG rfl rfl rfl) rfl (X.pickT (v := .bool false) rfl rfl) ?_
                refine X.opw X.wN rfl (X.pickF (v := .bool false) rfl rfl) ?_
                refine X.opsEnd ?_
                refine X.condF rfl ?_
                refine X.skip ?_
                refine X.inBlock ?_
                refine X.region ?_
                refine X.opw X.wN rfl (X.move (v := .int .i64 _) rfl) ?_
                refine X.opw X.wN rfl (X.add rfl rfl (X.w_i64 (by omega))) ?_
                refine X.opw X.wN rfl (X.assign (v := .int .i64 _) rfl) ?_
                refine X.opsEnd ?_
                refine hback (i + 1) _ _ ⟨rfl, rfl, rfl, rfl, trivial⟩ ⟨by omega, s', t', ca', cb', ((hT'.keep hk7).keep hk8), hq1, hq2, (((hPi.keep ((hk3.trans hk4).step hx5 (by intros; (try simp only [] at *); omega))).ext hx6 (by first | (intro q g1 g2 g3; first | (have g3 : _ ≤ q := g3; omega) | (have g3 : q = _ := g3; omega)) | (intro hh; first | (have hh : _ = _ := hh; omega) | (have hh : _ ≤ _ := hh; omega) | exact hh.elim (fun e => e hp1) (fun e => e hp2)))).keep (hk7.trans hk8)), (Ext.andThen (Ext.andThen (Ext.andThen (Ext.andThen (Ext.andThen (Ext.andThen (Ext.andThen (Ext.refl (fun q => w.heap.size ≤ q) _) hxi (by intro q h1 h2; first | exact (h2 : False).elim | exact h2 | (have h2 : q = _ := h2; omega) | (refine Classical.byContradiction fun e => ?_; have hl := hT.lo q (by omega); exact h2.elim (fun e => e hl.1) (fun e => e hl.2)))) hk3 (by intro q h1 h2; first | exact (h2 : False).elim | exact h2 | (have h2 : q = _ := h2; omega) | (refine Classical.byContradiction fun e => ?_; have hl := hT.lo q (by omega); exact h2.elim (fun e => e hl.1) (fun e => e hl.2)))) hk4 (by intro q h1 h2; first | exact (h2 : False).elim | exact h2 | (have h2 : q = _ := h2; omega) | (refine Classical.byContradiction fun e => ?_; have hl := hT.lo q (by omega); exact h2.elim (fun e => e hl.1) (fun e => e hl.2)))) hx5 (by intro q h1 h2; first | exact (h2 : False).elim | exact h2 | (have h2 : q = _ := h2; omega) | (refine Classical.byContradiction fun e => ?_; have hl := hT.lo q (by omega); exact h2.elim (fun e => e hl.1) (fun e => e hl.2)))) hx6 (by intro q h1 h2; first | exact (h2 : False).elim | exact h2 | (have h2 : q = _ := h2; omega) | (refine Classical.byContradiction fun e => ?_; have hl := hT.lo q (by omega); exact h2.elim (fun e => e hl.1) (fun e => e hl.2)))) hk7 (by intro q h1 h2; first | exact (h2 : False).elim | exact h2 | (have h2 : q = _ := h2; omega) | (refine Classical.byContradiction fun e => ?_; have hl := hT.lo q (by omega); exact h2.elim (fun e => e hl.1) (fun e => e hl.2)))) hk8 (by intro q h1 h2; first | exact (h2 : False).elim | exact h2 | (have h2 : q = _ := h2; omega) | (refine Classical.byContradiction fun e => ?_; have hl := hT.lo q (by omega); exact h2.elim (fun e => e hl.1) (fun e => e hl.2))))⟩ (by omega)
              · refine X.opw (X.wG rfl rfl rfl) rfl (X.move (v := .bool false) rfl) ?_
                refine X.opS rfl rfl rfl rfl rfl ?_
                refine X.opS rfl rfl rfl rfl rfl ?_
                refine X.opS rfl rfl rfl rfl rfl ?_
                refine X.opw (X.wG rfl rfl rfl) rfl (X.pickF (v := .bool false) rfl rfl) ?_
                refine X.opw X.wN rfl (X.pickF (v := .bool false) rfl rfl) ?_
                refine X.opsEnd ?_
                refine X.condF rfl ?_
                refine X.skip ?_
                refine X.inBlock ?_
                refine X.region ?_
                refine X.opw X.wN rfl (X.move (v := .int .i64 _) rfl) ?_
                refine X.opw X.wN rfl (X.add rfl rfl (X.w_i64 (by omega))) ?_
                refine X.opw X.wN rfl (X.assign (v := .int .i64 _) rfl) ?_
                refine X.opsEnd ?_
                refine hback (i + 1) _ _ ⟨rfl, rfl, rfl, rfl, trivial⟩ ⟨by omega, s', t', ca', cb', (hT'.keep hk7), hq1, hq2, (((hPi.keep ((hk3.trans hk4).step hx5 (by intros; (try simp only [] at *); omega))).ext hx6 (by first | (intro q g1 g2 g3; first | (have g3 : _ ≤ q := g3; omega) | (have g3 : q = _ := g3; omega)) | (intro hh; first | (have hh : _ = _ := hh; omega) | (have hh : _ ≤ _ := hh; omega) | exact hh.elim (fun e => e hp1) (fun e => e hp2)))).keep hk7), (Ext.andThen (Ext.andThen (Ext.andThen (Ext.andThen (Ext.andThen (Ext.andThen (Ext.refl (fun q => w.heap.size ≤ q) _) hxi (by intro q h1 h2; first | exact (h2 : False).elim | exact h2 | (have h2 : q = _ := h2; omega) | (refine Classical.byContradiction fun e => ?_; have hl := hT.lo q (by omega); exact h2.elim (fun e => e hl.1) (fun e => e hl.2)))) hk3 (by intro q h1 h2; first | exact (h2 : False).elim | exact h2 | (have h2 : q = _ := h2; omega) | (refine Classical.byContradiction fun e => ?_; have hl := hT.lo q (by omega); exact h2.elim (fun e => e hl.1) (fun e => e hl.2)))) hk4 (by intro q h1 h2; first | exact (h2 : False).elim | exact h2 | (have h2 : q = _ := h2; omega) | (refine Classical.byContradiction fun e => ?_; have hl := hT.lo q (by omega); exact h2.elim (fun e => e hl.1) (fun e => e hl.2)))) hx5 (by intro q h1 h2; first | exact (h2 : False).elim | exact h2 | (have h2 : q = _ := h2; omega) | (refine Classical.byContradiction fun e => ?_; have hl := hT.lo q (by omega); exact h2.elim (fun e => e hl.1) (fun e => e hl.2)))) hx6 (by intro q h1 h2; first | exact (h2 : False).elim | exact h2 | (have h2 : q = _ := h2; omega) | (refine Classical.byContradiction fun e => ?_; have hl := hT.lo q (by omega); exact h2.elim (fun e => e hl.1) (fun e => e hl.2)))) hk7 (by intro q h1 h2; first | exact (h2 : False).elim | exact h2 | (have h2 : q = _ := h2; omega) | (refine Classical.byContradiction fun e => ?_; have hl := hT.lo q (by omega); exact h2.elim (fun e => e hl.1) (fun e => e hl.2))))⟩ (by omega)
      · refine X.opw X.wN rfl (X.pickT (v := .bool false) rfl rfl) ?_
        refine X.opsEnd ?_
        refine X.condF rfl ?_
        refine X.exit rfl ?_
        refine X.seq ?_
        refine X.region ?_
        refine X.opE X.wN rfl (X.callE (alive_c _) Tryz.call5 rfl rfl) ?_
        rintro _ w9 ⟨rfl, hk9⟩
        have hk9' := hk9.size
        refine X.opw X.wN rfl (X.assign (v := .bool _) rfl) ?_
        refine X.opsEnd ?_
        refine X.ret1 (v := (.bool _)) Tryz.func3 Tryz.results3 rfl ?_
        exact ⟨rfl, ((hkA.step hxi (by intro q g1; first | (have g1 : q = _ := g1; omega) | (have g1 : _ ≤ q := g1; omega))).trans hk9)⟩
    · refine X.opw X.wN rfl (X.move (v := .bool false) rfl) ?_
      refine X.opS rfl rfl rfl rfl rfl ?_
      refine X.opS rfl rfl rfl rfl rfl ?_
      refine X.opw X.wN rfl (X.pickF (v := .bool false) rfl rfl) ?_
      refine X.opsEnd ?_
      refine X.condF rfl ?_
      refine X.exit rfl ?_
      refine X.seq ?_
      refine X.region ?_
      refine X.opE X.wN rfl (X.callE (alive_c _) Tryz.call5 rfl rfl) ?_
      rintro _ w10 ⟨rfl, hk10⟩
      have hk10' := hk10.size
      refine X.opw X.wN rfl (X.assign (v := .bool _) rfl) ?_
      refine X.opsEnd ?_
      refine X.ret1 (v := (.bool _)) Tryz.func3 Tryz.results3 rfl ?_
      exact ⟨rfl, ((hkA.step hxi (by intro q g1; first | (have g1 : q = _ := g1; omega) | (have g1 : _ ≤ q := g1; omega))).trans hk10)⟩
end Go.Proofs.YtcdebnppbnmmgaaGreat
