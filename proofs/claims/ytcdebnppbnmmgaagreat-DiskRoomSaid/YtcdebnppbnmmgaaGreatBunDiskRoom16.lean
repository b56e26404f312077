/- Texts that the proof of DiskRoom stands on, part 16. -/
import Derived.Test.YtcdebnppbnmmgaaGreatProg
import Derived.Test.YtcdebnppbnmmgaaGreatBunDiskRoom15

namespace Go.Proofs.YtcdebnppbnmmgaaGreat
open Go Go.Proofs.YtcdebnppbnmmgaaGreat.X
set_option linter.unusedVariables false
set_option linter.unusedSimpArgs false
def Hid (p : Prop) : Prop := p
set_option maxHeartbeats 4000000 in
set_option maxRecDepth 100000 in
theorem Lose_c {col : Nat → Nat} {b bf bd bx bl : Nat} {A : Option Addr} {n c : Nat} {pt : List Nat} {s0 : DS} {lo hi q1 r1 q2 r2 : Nat} {Aq1 Aq2 : Option Addr} {kp sz : List Bool} (dir : Int) (w : World) (h : DkB col w b bf bd bx bl A n c pt s0) (hok : s0.Ok) (hsz : s0.size ≤ 50000) (hdir : -9223372036854775808 ≤ dir ∧ dir ≤ 9223372036854775807) (hS1 : Sl KBo lo hi w Aq1 q1 kp) (hS2 : Sl KBo lo hi w Aq2 q2 sz) (hhi : hi ≤ w.heap.size) (hinj : ∀ i, ((tns (s0.chs.take i) s0.fx).map (·.2)).Nodup) :
    Ret Tryz.prog 15 #[ptrV b, .agg #[.int .i64 dir, .slice Aq1 q1 r1, .slice Aq2 q2 r2]] w fun r w' => Keep w w' ∧ ((dir < 0 ∨ (s0.chs.length : Int) < dir) ∧ r = .tuple #[.pointer none, .int .i64 5] ∨ ¬ (dir < 0 ∨ (s0.chs.length : Int) < dir) ∧ ∃ bo co, r = .tuple #[ptrV bo, .int .i64 0] ∧ DkR co w' bo (s0.lose dir.toNat kp sz) ∧ ∀ q, co q ≠ 0 → w.heap.size ≤ q) := by
  have hbl := h.B.lt
  have hfl := h.F.lt
  have hdl := h.G.lt
  have hxl := h.X.lt
  have hll := h.L.lt
  have hcb := h.cb
  have hcf := h.cf
  have hcd := h.cd
  have hcx := h.cx
  have hcl := h.cl
  obtain ⟨z1, z2, z3, z4, z5, z6, z7, z8, z9, z10⟩ := h.ne
  have hlt := h.lt
  have hok1 := hok.lf
  have hok2 := hok.few
  have hsz2 := hsz
  rw [DS.size] at hsz2
  have hchl := h.M.len
  have hnn := near_len hok
  have hcapc := (h.M.rd KCh_flat).1
  clear z1 z2 z3 z4 z5 z6 z7 z8 z9 z10
  refine X.enter Tryz.func15 rfl Tryz.ntmps15 rfl ?_
  refine X.seq ?_
  refine X.region ?_
  refine X.opE X.wN rfl (X.boxE rfl rfl) ?_
  rintro _ w1 ⟨rfl, hB1, hk1, hz1⟩
  refine X.opw X.wN rfl (X.assign rfl) ?_
  refine X.opw X.wN rfl (X.assign rfl) ?_
  refine X.opsEnd ?_
  refine X.seq ?_
  refine X.seq ?_
  refine X.region ?_
  refine X.opw X.wN rfl (X.move rfl) ?_
  refine X.opE X.wN rfl (X.callE (is_c _ (h.B.keep hk1)) Tryz.call32 rfl rfl) ?_
  rintro _ w2 ⟨rfl, hk2⟩
  have hk2' := hk2.size
  refine X.opw X.wN rfl (X.not_ rfl) ?_
  refine X.opsEnd ?_
  refine X.condF rfl ?_
  refine X.skip ?_
  refine X.seq ?_
  refine X.seq ?_
  refine X.regionD (fun _ => False) 13 (by kernel_rfl) (by kernel_rfl) (fun w3 hk3 hz3 => ?_)
  refine X.dTake 0 rfl (by kernel_rfl) (by kernel_rfl) (by kernel_rfl) (X.dwN rfl) (fun w' hk' => X.fldB (j := 0) Tryz.underlying34 rfl rfl Tryz.sizeOf3 rfl) ?_
  refine X.dTake 1 rfl (by kernel_rfl) (by kernel_rfl) (by kernel_rfl) (X.dwN rfl) (fun w' hk' => X.load1B Tryz.isAgg3 (hB1.keep ((hk2.trans hk3).trans hk')) rfl rfl) ?_
  refine X.dTake 2 rfl (by kernel_rfl) (by kernel_rfl) (by kernel_rfl) (X.dwN rfl) (fun w' hk' => X.lss rfl rfl) ?_
  refine X.dTake 3 rfl (by kernel_rfl) (by kernel_rfl) (by kernel_rfl) (X.dwN rfl) (fun w' hk' => X.move (v := .bool _) rfl) ?_
  refine X.dFork 27 rfl (fun h27 => ?_) (fun h27 => ?_)
  · have h27 := of_decide_eq_true h27
    refine X.dTakeS 4 rfl (by kernel_rfl) (by kernel_rfl) (by kernel_rfl) rfl rfl rfl rfl ?_
    refine X.dTakeS 5 rfl (by kernel_rfl) (by kernel_rfl) (by kernel_rfl) rfl rfl rfl rfl ?_
    refine X.dSkip (i := 6) (by kernel_rfl) rfl rfl rfl rfl rfl ?_
    refine X.dSkip (i := 7) (by kernel_rfl) rfl rfl rfl rfl rfl ?_
    refine X.dSkip (i := 8) (by kernel_rfl) rfl rfl rfl rfl rfl ?_
    refine X.dSkip (i := 9) (by kernel_rfl) rfl rfl rfl rfl rfl ?_
    refine X.dSkip (i := 10) (by kernel_rfl) rfl rfl rfl rfl rfl ?_
    refine X.dSkip (i := 11) (by kernel_rfl) rfl rfl rfl rfl rfl ?_
    refine X.dTake 12 rfl (by kernel_rfl) (by kernel_rfl) (by kernel_rfl) (X.dwN rfl) (fun w' hk' => X.pickT (v := .bool true) rfl rfl) ?_
    refine X.dEnd (by kernel_rfl) ?_
    refine X.condT rfl ?_
    refine X.seq ?_
    refine X.region ?_
    refine X.opw X.wN rfl (X.assign rfl) ?_
    refine X.opw X.wN rfl (X.assign rfl) ?_
    refine X.opsEnd ?_
    refine X.ret2 (v2 := (.int .i64 _)) Tryz.func15 Tryz.results15 rfl rfl ?_
    exact ⟨((hk1.trans hk2).trans hk3), .inl ⟨.inl h27, rfl⟩⟩
  · have h27 := of_decide_eq_false h27
    obtain ⟨dn, rfl⟩ := Int.eq_ofNat_of_zero_le (show 0 ≤ dir by omega)
    refine X.dTake 4 rfl (by kernel_rfl) (by kernel_rfl) (by kernel_rfl) (X.dwG rfl rfl rfl) (fun w' hk' => X.fldB (j := 0) Tryz.underlying34 rfl rfl Tryz.sizeOf3 rfl) ?_
    refine X.dTake 5 rfl (by kernel_rfl) (by kernel_rfl) (by kernel_rfl) (X.dwG rfl rfl rfl) (fun w' hk' => X.load1B Tryz.isAgg3 (hB1.keep ((hk2.trans hk3).trans hk')) rfl rfl) ?_
    refine X.dTake 6 rfl (by kernel_rfl) (by kernel_rfl) (by kernel_rfl) (X.dwG rfl rfl rfl) (fun w' hk' => X.move rfl) ?_
    refine X.dTake 7 rfl (by kernel_rfl) (by kernel_rfl) (by kernel_rfl) (X.dwG rfl rfl rfl) (fun w' hk' => X.nilCk rfl) ?_
    refine X.dTake 8 rfl (by kernel_rfl) (by kernel_rfl) (by kernel_rfl) (X.dwG rfl rfl rfl) (fun w' hk' => X.fldB (j := 5) Tryz.underlying71 rfl rfl Tryz.sizeOf68 rfl) ?_
    refine X.dTake 9 rfl (by kernel_rfl) (by kernel_rfl) (by kernel_rfl) (X.dwG rfl rfl rfl) (fun w' hk' => X.load1B Tryz.isAgg68 (h.B.keep (((hk1.trans hk2).trans hk3).trans hk')) rfl rfl) ?_
    refine X.dTake 10 rfl (by kernel_rfl) (by kernel_rfl) (by kernel_rfl) (X.dwG rfl rfl rfl) (fun w' hk' => X.lenSl Tryz.underlying68 rfl) ?_
    refine X.dTake 11 rfl (by kernel_rfl) (by kernel_rfl) (by kernel_rfl) (X.dwG rfl rfl rfl) (fun w' hk' => X.gtr rfl rfl) ?_
    refine X.dTake 12 rfl (by kernel_rfl) (by kernel_rfl) (by kernel_rfl) (X.dwN rfl) (fun w' hk' => X.pickF (v := .bool _) rfl rfl) ?_
    refine X.dEnd (by kernel_rfl) ?_
    refine X.condB rfl (fun h35 => ?_) (fun h35 => ?_)
    · have h35 := of_decide_eq_true h35
      refine X.seq ?_
      refine X.region ?_
      refine X.opw X.wN rfl (X.assign rfl) ?_
      refine X.opw X.wN rfl (X.assign rfl) ?_
      refine X.opsEnd ?_
      refine X.ret2 (v2 := (.int .i64 _)) Tryz.func15 Tryz.results15 rfl rfl ?_
      exact ⟨((hk1.trans hk2).trans hk3), .inl ⟨.inr (by omega), rfl⟩⟩
    · have h35 := of_decide_eq_false h35
      refine X.skip ?_
      refine X.seq ?_
      refine X.region ?_
      refine X.opw X.wN rfl (X.move rfl) ?_
      refine X.opw X.wN rfl (X.nilCk rfl) ?_
      refine X.opw X.wN rfl (X.fldB (j := 4) Tryz.underlying71 rfl rfl Tryz.sizeOf67 rfl) ?_
      refine X.opw X.wN rfl (X.load1B Tryz.isAgg67 (h.B.keep ((hk1.trans hk2).trans hk3)) rfl rfl) ?_
      refine X.opE X.wN rfl (X.callE (mapClone_c _ (h.X.keep ((hk1.trans hk2).trans hk3))) Tryz.call51 rfl rfl) ?_
      rintro _ w4 ⟨rfl, gD, hk4, hz4⟩
      refine X.opw X.wN rfl (X.assign rfl) ?_
      refine X.opsEnd ?_
      refine X.seq ?_
      refine X.seq ?_
      refine X.regionD (fun _ => False) 9 (by kernel_rfl) (by kernel_rfl) (fun w5 hk5 hz5 => ?_)
      refine X.dTake 0 rfl (by kernel_rfl) (by kernel_rfl) (by kernel_rfl) (X.dwN rfl) (fun w' hk' => X.move rfl) ?_
      refine X.dTake 1 rfl (by kernel_rfl) (by kernel_rfl) (by kernel_rfl) (X.dwN rfl) (fun w' hk' => X.nilCk rfl) ?_
      refine X.dTake 2 rfl (by kernel_rfl) (by kernel_rfl) (by kernel_rfl) (X.dwN rfl) (fun w' hk' => X.fldB (j := 5) Tryz.underlying71 rfl rfl Tryz.sizeOf68 rfl) ?_
      refine X.dTake 3 rfl (by kernel_rfl) (by kernel_rfl) (by kernel_rfl) (X.dwN rfl) (fun w' hk' => X.load1B Tryz.isAgg68 (h.B.keep (((((hk1.trans hk2).trans hk3).trans hk4).trans hk5).trans hk')) rfl rfl) ?_
      refine X.dTake 4 rfl (by kernel_rfl) (by kernel_rfl) (by kernel_rfl) (X.dwN rfl) (fun w' hk' => X.fldB (j := 0) Tryz.underlying34 rfl rfl Tryz.sizeOf3 rfl) ?_
      refine X.dTake 5 rfl (by kernel_rfl) (by kernel_rfl) (by kernel_rfl) (X.dwN rfl) (fun w' hk' => X.load1B Tryz.isAgg3 (hB1.keep ((((hk2.trans hk3).trans hk4).trans hk5).trans hk')) rfl rfl) ?_
      refine X.dTake 6 rfl (by kernel_rfl) (by kernel_rfl) (by kernel_rfl) (X.dwN rfl) (fun w' hk' => X.cutHr Tryz.underlying68 Tryz.sizeOf90 rfl rfl (by omega)) ?_
      refine X.dTake 7 rfl (by kernel_rfl) (by kernel_rfl) (by kernel_rfl) (X.dwN rfl) (fun w' hk' => X.lenSl (n := dn) Tryz.underlying68 rfl) ?_
      refine X.dTake 8 rfl (by kernel_rfl) (by kernel_rfl) (by kernel_rfl) (X.dwN rfl) (fun w' hk' => X.move rfl) ?_
      refine X.dEnd (by kernel_rfl) ?_
      refine X.block ?_
      refine X.loopL (σ := Nat) (fun s => [(0, ptrV b), (3, ptrV w.heap.size), (6, .map (some w3.heap.size)), (48, .slice A dn c), (49, .int .i64 (dn : Int)), (50, .int .i64 (s : Int))]) (fun s w' => s ≤ dn ∧ MPD w' w3.heap.size (tns (s0.chs.take s) s0.fx) ∧ Blk w' w.heap.size [.int .i64 (dn : Int), .slice Aq1 q1 r1, .slice Aq2 q2 r2] 34 ∧ Keep w w') (fun s => dn - s) 0 ⟨rfl, rfl, rfl, rfl, rfl, rfl, trivial⟩ ⟨Nat.zero_le _, (gD.keep hk5), (hB1.keep (((hk2.trans hk3).trans hk4).trans hk5)), ((((hk1.trans hk2).trans hk3).trans hk4).trans hk5)⟩ ?_
      rintro i e wi ⟨hi, gDi, hBc, hki⟩ hback
      have hki' := hki.size
      have hCi : Sl KCh 0 w.heap.size wi A n s0.chs := (h.M.rd KCh_flat).2.keep hki
      have hgl := gDi.lt
      refine X.seq ?_
      refine X.region ?_
      refine X.opP X.wN rfl rfl (X.lss rfl rfl) (fun h51 => ?_) (fun h51 => ?_)
      · obtain ⟨x, hx⟩ := getN i hchl (by omega)
        have hxt : (s0.chs.take dn)[i]? = some x := by rw [List.getElem?_take, if_pos (by omega)]; exact hx
        refine X.opsEnd ?_
        refine X.seq ?_
        refine X.condT rfl ?_
        refine X.skip ?_
        refine X.seq ?_
        refine X.block ?_
        refine X.seq ?_
        refine X.region ?_
        refine X.opw X.wN rfl (X.idxS (hCi.take dn (by omega)) Tryz.underlying68 Tryz.sizeOf90 rfl rfl ⟨by omega, by omega⟩) ?_
        refine X.opw X.wN rfl (X.loadSN Tryz.isAgg90 Tryz.sizeOf90 (hCi.take dn (by omega)) hxt rfl (fun _ h => h.1) rfl) ?_
        refine X.opE X.wN rfl (X.allocE Tryz.zeroValue90 rfl) ?_
        rintro _ w6 ⟨rfl, hB6, hk6, hz6⟩
        refine X.opE X.wN rfl (X.storeNE Tryz.sizeOf90 hB6 rfl rfl rfl rfl (fun u hu => by simp at hu; rcases hu with rfl | rfl | rfl <;> rfl)) ?_
        rintro _ w7 ⟨hB7, hx7, hz7⟩
        refine X.opsEnd ?_
        refine X.region ?_
        refine X.opw X.wN rfl (X.move rfl) ?_
        refine X.opw X.wN rfl (X.loadNB Tryz.isAgg90 Tryz.sizeOf90 hB7 rfl rfl rfl) ?_
        refine X.opE X.wN rfl (X.callE (turn_c x _ (gDi.keep (hk6.step hx7 (by intros; (try simp only [] at *); omega)))) Tryz.call52 rfl rfl) ?_
        rintro _ w8 ⟨rfl, gDn, hx8⟩
        have hx8' := hx8.size
        refine X.opsEnd ?_
        refine X.inBlock ?_
        refine X.region ?_
        refine X.opw X.wN rfl (X.add (c := ((i + 1 : Nat) : Int)) rfl rfl (by rw [X.w_i64 (by omega)]; omega)) ?_
        refine X.opw X.wN rfl (X.move (v := .int .i64 _) rfl) ?_
        refine X.opsEnd ?_
        refine hback (i + 1) _ _ ⟨rfl, rfl, rfl, rfl, rfl, rfl, trivial⟩ ⟨by omega, by rw [tns_snoc hx]; exact gDn, ((hBc.keep (hk6.step hx7 (by intros; (try simp only [] at *); omega))).ext hx8 (by first | (intro hh; first | exact nn1 hh | exact nn2 hh | exact nn3 hh | exact nn4 hh | exact nn5 hh | exact nn6 hh | exact nn7 hh | exact nn8 hh | exact nn9 hh | exact nna hh | exact nnb hh | exact nnc hh | (rcases hh with hh | hh <;> first | exact nn1 hh | exact nn2 hh | exact nn3 hh | exact nn4 hh | exact nn5 hh | exact nn6 hh | exact nn7 hh | exact nn8 hh | exact nn9 hh | exact nna hh | exact nnb hh | exact nnc hh | omega) | omega) | (intro hh; have hh : _ = _ := hh; omega) | (intros; (try simp only [] at *); omega))), (((hki.trans hk6).step hx7 (by intros; (try simp only [] at *); omega)).step hx8 (by intros; (try simp only [] at *); omega))⟩ (by omega)
      · have gDd : MPD wi w3.heap.size (tns (s0.chs.take dn) s0.fx) := by
          have e9 : i = dn := by omega
          rw [e9] at gDi; exact gDi
        refine X.opsEnd ?_
        refine X.seq ?_
        refine X.condF rfl ?_
        refine X.exit rfl ?_
        refine X.seq ?_
        refine X.region ?_
        refine X.opw X.wN rfl (X.move rfl) ?_
        refine X.opw X.wN rfl (X.nilCk rfl) ?_
        refine X.opw X.wN rfl (X.fldB (j := 0) Tryz.underlying71 rfl rfl Tryz.sizeOf3 rfl) ?_
        refine X.opw X.wN rfl (X.load1B Tryz.isAgg3 (h.B.keep hki) rfl rfl) ?_
        refine X.opE X.wN rfl (X.callE (New_ok s0.rm _ hok.rm) Tryz.call10 rfl rfl) ?_
        rintro _ w9 ⟨bo, bfo, bdo, bxo, blo, co, rfl, hO, hco, hk9⟩
        have hk9' := hk9.size
        refine X.opw X.wN rfl (X.move rfl) ?_
        refine X.opw X.wN rfl (X.extr rfl rfl) ?_
        refine X.opw X.wN rfl (X.extr rfl rfl) ?_
        refine X.opw X.wN rfl (X.assign rfl) ?_
        refine X.opw X.wN rfl (X.assign (v := .int .i64 _) rfl) ?_
        refine X.opsEnd ?_
        refine X.seq ?_
        refine X.region ?_
        refine X.opE X.wN rfl (X.makeMapV (fun x : Int => Value.int .i64 x) (fun v : ByteArray => Value.string v)) ?_
        rintro _ w10 ⟨rfl, hG10, hk10, hz10⟩
        refine X.opw X.wN rfl (X.assign rfl) ?_
        refine X.opsEnd ?_
        refine X.seq ?_
        refine X.seq ?_
        refine X.region ?_
        refine X.opw X.wN rfl (X.move rfl) ?_
        refine X.opE X.wN rfl (X.rangeE (enc := (fun x : ByteArray => Value.string x)) Tryz.underlying67 (gDd.keep (hk9.trans hk10)) rfl) ?_
        rintro _ w11 ⟨rfl, hI11, hk11, hz11⟩
        refine X.opsEnd ?_
        refine X.block ?_
        have gO := ((hO.keep hk10).keep hk11)
        have hOl := hO.lt
        have hdn : ((tns (s0.chs.take dn) s0.fx).map (·.1)).Nodup := gDd.nd
        refine X.loopL (σ := List ByteArray × List (Int × ByteArray)) (fun s => [(0, ptrV b), (3, ptrV w.heap.size), (9, ptrV bo), (11, .map (some w9.heap.size)), (68, .pointer (some ⟨w10.heap.size, 0, none⟩))]) (fun s w' => It (fun x : ByteArray => Value.string x) w' w10.heap.size w3.heap.size (mv (fun v : Int => Value.int .i64 v) (tns (s0.chs.take dn) s0.fx)) s.1 ∧ MpV (fun x : Int => Value.int .i64 x) (fun v : ByteArray => Value.string v) w' w9.heap.size s.2 ∧ (∀ k nm, asc k s.2 = some nm ↔ nm ∈ s.1 ∧ (nm, k) ∈ (tns (s0.chs.take dn) s0.fx)) ∧ s.1.Nodup ∧ (∀ a, a ∈ s.1 → a ∈ (tns (s0.chs.take dn) s0.fx).map (·.1)) ∧ Blk w' w.heap.size [.int .i64 (dn : Int), .slice Aq1 q1 r1, .slice Aq2 q2 r2] 34 ∧ DkB co w' bo bfo bdo bxo blo none 0 0 [] (DS.mk0 s0.rm [] [] []) ∧ Keep w w') (fun s => (tns (s0.chs.take dn) s0.fx).length + 1 - s.1.length) ([], []) ⟨rfl, rfl, rfl, rfl, rfl, trivial⟩ ⟨hI11, (hG10.keep hk11), fun k nm => by simp [asc], List.nodup_nil, fun _ h => (by simp at h), (hBc.keep ((hk9.trans hk10).trans hk11)), gO, (((hki.trans hk9).trans hk10).trans hk11)⟩ ?_
        rintro ⟨ds, nl⟩ e wn ⟨hI, hG1, hnl, hnd, hin, hBc1, hO1, hkn⟩ hback
        dsimp only at hI hG1 hnl hnd hin ⊢
        have hkn' := hkn.size
        have hIl := hI.lt
        have hGl := hG1.lt
        have hO1l := hO1.lt
        refine X.seq ?_
        refine X.region ?_
        refine X.opE X.wN rfl (X.nextE hI rfl) ?_
        rintro _ w12 (⟨rfl, hall12, rfl⟩ | ⟨p12, hp12, hpn12, rfl, hI12, hx12, hz12⟩)
        · have hnl2 : ∀ k nm, asc k nl = some nm ↔ (nm, k) ∈ (tns (s0.chs.take dn) s0.fx) := fun k nm => by
            rw [hnl]
            exact ⟨fun h => h.2, fun h => ⟨hall12 (nm, .int .i64 k) (List.mem_map.2 ⟨(nm, k), h, rfl⟩), h⟩⟩
          refine X.opw X.wN rfl (X.extr rfl rfl) ?_
          refine X.opsEnd ?_
          refine X.seq ?_
          refine X.condF rfl ?_
          refine X.exit rfl ?_
          refine X.seq ?_
          refine X.regionD (fun _ => False) 9 (by kernel_rfl) (by kernel_rfl) (fun w13 hk13 hz13 => ?_)
          refine X.dTake 0 rfl (by kernel_rfl) (by kernel_rfl) (by kernel_rfl) (X.dwN rfl) (fun w' hk' => X.fldB (j := 1) Tryz.underlying34 rfl rfl Tryz.sizeOf32 rfl) ?_
          refine X.dTake 1 rfl (by kernel_rfl) (by kernel_rfl) (by kernel_rfl) (X.dwN rfl) (fun w' hk' => X.load1B Tryz.isAgg32 (hBc1.keep (hk13.trans hk')) rfl rfl) ?_
          refine X.dTake 2 rfl (by kernel_rfl) (by kernel_rfl) (by kernel_rfl) (X.dwN rfl) (fun w' hk' => X.buildB (vs := [(0, .slice Aq1 q1 r1)]) (cs := #[.slice Aq1 q1 r1, .int .i64 0]) rfl (by kernel_rfl)) ?_
          refine X.dTake 4 rfl (by kernel_rfl) (by kernel_rfl) (by kernel_rfl) (X.dwN rfl) (fun w' hk' => X.fldB (j := 2) Tryz.underlying34 rfl rfl Tryz.sizeOf32 rfl) ?_
          refine X.dTake 5 rfl (by kernel_rfl) (by kernel_rfl) (by kernel_rfl) (X.dwN rfl) (fun w' hk' => X.load1B Tryz.isAgg32 (hBc1.keep (hk13.trans hk')) rfl rfl) ?_
          refine X.dTake 6 rfl (by kernel_rfl) (by kernel_rfl) (by kernel_rfl) (X.dwN rfl) (fun w' hk' => X.buildB (vs := [(0, .slice Aq2 q2 r2)]) (cs := #[.slice Aq2 q2 r2, .int .i64 0]) rfl (by kernel_rfl)) ?_
          refine X.dTwo (i := 3) (j := 7) (by kernel_rfl) ?_ ?_
          · refine X.d1E (i := 3) rfl (X.dwN rfl) (X.boxE rfl rfl) (by rintro _ w14 ⟨rfl, hB14, hk14, hz14⟩ _; exact hk14.mono (fun _ _ h => h.elim)) ?_
            rintro _ w14 ⟨rfl, hB14, hk14, hz14⟩
            refine X.dTake 8 rfl (by kernel_rfl) (by kernel_rfl) (by kernel_rfl) (X.dwN rfl) (fun w' hk' => X.assign rfl) ?_
            refine X.dE (i := 7) (by kernel_rfl) rfl (X.dwN rfl) (X.boxE rfl rfl) (by rintro _ w15 ⟨rfl, hB15, hk15, hz15⟩ _; exact hk15.mono (fun _ _ h => h.elim)) ?_
            rintro _ w15 ⟨rfl, hB15, hk15, hz15⟩
            refine X.dStep (i := 9) (by kernel_rfl) rfl (X.dwN rfl) (X.assign rfl) (fun h => absurd h (by decide)) ?_
            refine X.dEnd (by kernel_rfl) ?_
            refine X.seq ?_
            refine X.seq ?_
            refine X.region ?_
            refine X.opw X.wN rfl (X.move rfl) ?_
            refine X.opE X.wN rfl (X.callE (near_c _ (h.keep (((hkn.trans hk13).trans hk14).trans hk15)) hok (by rw [DS.size]; omega)) Tryz.call49 rfl rfl) ?_
            rintro _ w16 ⟨An, cn, rfl, hcn, hMn, hk16⟩
            have hk16' := hk16.size
            refine X.opw X.wN rfl (X.lenSl Tryz.underlying95 rfl) ?_
            refine X.opw X.wN rfl (X.move rfl) ?_
            refine X.opsEnd ?_
            refine X.block ?_
            obtain ⟨_, _, e9, _, gNr0⟩ := hMn.slF KI_flat w15.heap.size (fun q hq => hq.1)
            injection e9 with e91 e92 e93
            subst e91 e93
            clear e92
            have hnnl : s0.near.length = s0.near.length := rfl
            have gOm := ((((hO1.keep hk13).keep hk14).keep hk15).keep hk16)
            have gNm := (hG1.keep (((hk13.trans hk14).trans hk15).trans hk16))
            have hz0 : ∀ q, w9.heap.size ≤ q → co q = 0 := fun q hq => Classical.byContradiction fun e => by have := hOl q e; omega
            refine X.loopL (σ := Nat × (List FILE × DIR)) (fun s => [(0, ptrV b), (9, ptrV bo), (11, .map (some w9.heap.size)), (14, ptrV w13.heap.size), (15, ptrV w14.heap.size), (86, .slice An s0.near.length cn), (87, .int .i64 (s0.near.length : Int)), (88, .int .i64 (s.1 : Int))]) (fun s w' => ∃ (co : Nat → Nat) (pt : List Nat), s.1 ≤ s0.near.length ∧ DkB co w' bo bfo bdo bxo blo none 0 0 pt (DS.mk0 s0.rm s.2.1 s.2.2 []) ∧ (∀ q, co q ≠ 0 → wi.heap.size ≤ q) ∧ co w9.heap.size = 0 ∧ co w13.heap.size = 0 ∧ co w14.heap.size = 0 ∧ (∀ q, w15.heap.size ≤ q → q < w16.heap.size → co q = 0) ∧ loseF s0 (tns (s0.chs.take dn) s0.fx) kp sz (s0.near.drop s.1) (looseL s0 (s0.near.take s.1)).1 (looseL s0 (s0.near.take s.1)).2 s.2 = s0.left dn kp sz ∧ Blk w' w13.heap.size (kpL Aq1 q1 r1 (((looseL s0 (s0.near.take s.1)).1 : Nat) : Int)) 103 ∧ Blk w' w14.heap.size (kpL Aq2 q2 r2 (((looseL s0 (s0.near.take s.1)).2 : Nat) : Int)) 103 ∧ MpV (fun x : Int => Value.int .i64 x) (fun v : ByteArray => Value.string v) w' w9.heap.size nl ∧ Sl KI w15.heap.size w16.heap.size w' An s0.near.length s0.near ∧ s.2.1.length ≤ s.1 ∧ w16.heap.size ≤ w'.heap.size ∧ Keep w w') (fun s => s0.near.length - s.1) (0, ([], [])) ⟨rfl, rfl, rfl, rfl, rfl, rfl, rfl, rfl, trivial⟩ ⟨co, [], Nat.zero_le _, gOm, hco, hz0 _ (by omega), hz0 _ (by omega), hz0 _ (by omega), fun q hq _ => hz0 q (by omega), rfl, (hB14.keep (hk15.trans hk16)), (hB15.keep hk16), gNm, gNr0, Nat.le_refl _, Nat.le_refl _, ((((hkn.trans hk13).trans hk14).trans hk15).trans hk16)⟩ ?_
            rintro ⟨i2, o⟩ e wm ⟨co2, pt2, hi2, hO, hco2, hcn1, hcs1, hcz1, hcr, hlf9, gBs, gBz, hGm, hSn, hol, hwn, hkm⟩ hback
            dsimp only at hi2 hO hlf9 gBs gBz hol ⊢
            have hkm' := hkm.size
            have hOl2 := hO.lt
            have o1 := hO.cb
            have o2 := hO.cf
            have o3 := hO.cd
            have p1 := hco2 bo (by omega)
            have p2 := hco2 bfo (by omega)
            have p3 := hco2 bdo (by omega)
            have hb1 := hO.B.lt
            have hb2 := hO.F.lt
            have hb3 := hO.G.lt
            have hb4 := gBs.lt
            have hb5 := gBz.lt
            have hb6 := hGm.lt
            have nn1 : Hid (bo ≠ w13.heap.size) := fun e => by rw [e] at o1; omega
            have nn2 : Hid (bo ≠ w14.heap.size) := fun e => by rw [e] at o1; omega
            have nn3 : Hid (bfo ≠ w13.heap.size) := fun e => by rw [e] at o2; omega
            have nn4 : Hid (bfo ≠ w14.heap.size) := fun e => by rw [e] at o2; omega
            have nn5 : Hid (bdo ≠ w13.heap.size) := fun e => by rw [e] at o3; omega
            have nn6 : Hid (bdo ≠ w14.heap.size) := fun e => by rw [e] at o3; omega
            have nn7 : Hid (bo ≠ bfo) := fun e => by rw [e] at o1; omega
            have nn8 : Hid (bo ≠ bdo) := fun e => by rw [e] at o1; omega
            have nn9 : Hid (bfo ≠ bdo) := fun e => by rw [e] at o2; omega
            have nna : Hid (bo ≠ w9.heap.size) := fun e => by rw [e] at o1; omega
            have nnb : Hid (bfo ≠ w9.heap.size) := fun e => by rw [e] at o2; omega
            have nnc : Hid (bdo ≠ w9.heap.size) := fun e => by rw [e] at o3; omega
            have hll := looseL_le hok (s0.near.take i2)
            have htl : (s0.near.take i2).length = i2 := by rw [List.length_take]; omega
            rw [htl] at hll
            refine X.seq ?_
            refine X.region ?_
            refine X.opP X.wN rfl rfl (X.lss rfl rfl) (fun h89 => ?_) (fun h89 => ?_)
            · obtain ⟨k, hxk⟩ := getN i2 hnnl (by omega)
              obtain ⟨hk0, hk1⟩ := near_ok hok k (List.mem_of_getElem? hxk)
              obtain ⟨pf, f, A1, n1, c1, A2, n2, c2, hfb, hpf, hff, hn1, hn2, hfl1, hpc, hBf, hM1, hM2⟩ := h.at_ hk0 hk1
              have hlf := hok.len hff
              have hfat := fat_at hff
              have hskl := sizeK_le hok hff sz (looseL s0 (s0.near.take i2)).2
              have hstep : looseL s0 (s0.near.take (i2 + 1)) = ((looseL s0 (s0.near.take i2)).1 + (s0.spots k).length, (looseL s0 (s0.near.take i2)).2 + cntK f) := by
                rw [take_at hxk, looseL_app, looseL, looseL, hfat]; simp [cntK]
              have hs1 : (looseL s0 (s0.near.take (i2 + 1))).1 = (looseL s0 (s0.near.take i2)).1 + (s0.spots k).length := by rw [hstep]
              have hs2 : (looseL s0 (s0.near.take (i2 + 1))).2 = (looseL s0 (s0.near.take i2)).2 + cntK (fat s0.fs k) := by rw [hstep, hfat]
              rw [← hfat] at hskl
              refine X.opsEnd ?_
              refine X.seq ?_
              refine X.condT rfl ?_
              refine X.skip ?_
              refine X.seq ?_
              refine X.block ?_
              refine X.seq ?_
              refine X.region ?_
              refine X.opw X.wN rfl (X.idxS hSn Tryz.underlying95 Tryz.sizeOf3 rfl rfl ⟨by omega, by omega⟩) ?_
              refine X.opw X.wN rfl (X.loadS Tryz.isAgg3 hSn hxk rfl (fun _ h => by rw [h.1]; rfl)) ?_
              refine X.opw X.wN rfl (X.assign (v := .int .i64 _) rfl) ?_
              refine X.opsEnd ?_
              refine X.seq ?_
              refine X.region ?_
              refine X.opw X.wN rfl (X.move rfl) ?_
              refine X.opw X.wN rfl (X.move (v := .int .i64 _) rfl) ?_
              refine X.opw X.wN rfl (X.move rfl) ?_
              refine X.opw X.wN rfl (X.move rfl) ?_
              refine X.opE X.wN rfl (X.callE (kept_c k (looseL s0 (s0.near.take i2)).1 (looseL s0 (s0.near.take i2)).2 _ (h.keep hkm) hok hk0 hk1 gBs gBz (hS1.keep hkm) (hS2.keep hkm) (.inr (by omega)) (.inr (by omega)) (by omega) (Classical.byContradiction fun e => by have := hlt _ e; omega) (Classical.byContradiction fun e => by have := hlt _ e; omega) (by omega) (by omega) (by omega)) Tryz.call53 rfl rfl) ?_
              rintro _ w17 ⟨Ak, rfl, hRk, kBs, kBz, hx17⟩
              have hx17' := hx17.size
              refine X.opw X.wN rfl (X.assign rfl) ?_
              refine X.opsEnd ?_
              refine X.seq ?_
              refine X.region ?_
              refine X.opw X.wN rfl (X.move rfl) ?_
              refine X.opw X.wN rfl (X.move (v := .int .i64 _) rfl) ?_
              refine X.opw X.wN rfl (X.lookupOkV (enc := fun x : Int => Value.int .i64 x) (venc := fun v : ByteArray => Value.string v) (z := ⟨#[]⟩) (a := k) Tryz.underlying100 (keyInt Tryz.underlying3) Tryz.zeroValue9 (hGm.ext hx17 (by first | (intro hh; first | exact nn1 hh | exact nn2 hh | exact nn3 hh | exact nn4 hh | exact nn5 hh | exact nn6 hh | exact nn7 hh | exact nn8 hh | exact nn9 hh | exact nna hh | exact nnb hh | exact nnc hh | (rcases hh with hh | hh <;> first | exact nn1 hh | exact nn2 hh | exact nn3 hh | exact nn4 hh | exact nn5 hh | exact nn6 hh | exact nn7 hh | exact nn8 hh | exact nn9 hh | exact nna hh | exact nnb hh | exact nnc hh | omega) | omega) | (intro hh; have hh : _ = _ := hh; omega) | (intros; (try simp only [] at *); omega))) rfl rfl) ?_
              refine X.opw X.wN rfl (X.move rfl) ?_
              refine X.opw X.wN rfl (X.extr rfl rfl) ?_
              refine X.opw X.wN rfl (X.extr rfl rfl) ?_
              refine X.opw X.wN rfl (X.assign (v := .string _) rfl) ?_
              refine X.opw X.wN rfl (X.assign (v := .bool _) rfl) ?_
              refine X.opsEnd ?_
              refine X.seq ?_
              refine X.seq ?_
              refine X.region ?_
              refine X.opw X.wN rfl (X.move (v := .bool _) rfl) ?_
              refine X.opw X.wN rfl (X.not_ rfl) ?_
              refine X.opsEnd ?_
              refine X.condB rfl (fun hc => ?_) (fun hc => ?_)
              · have hnn2 : nameOf (tns (s0.chs.take dn) s0.fx) k = none := by
                  cases hq : nameOf (tns (s0.chs.take dn) s0.fx) k with
                  | none => rfl
                  | some nm =>
                    have h5 := (hnl2 k nm).2 ((nameOf_some (hinj dn)).1 hq)
                    rw [h5] at hc; simp at hc
                refine X.exit rfl ?_
                refine X.region ?_
                refine X.opw X.wN rfl (X.add (c := ((i2 + 1 : Nat) : Int)) rfl rfl (by rw [X.w_i64 (by omega)]; omega)) ?_
                refine X.opw X.wN rfl (X.move (v := .int .i64 _) rfl) ?_
                refine X.opsEnd ?_
                refine hback (i2 + 1, o) _ _ ⟨rfl, rfl, rfl, rfl, rfl, rfl, rfl, rfl, trivial⟩ ⟨co2, pt2, by (dsimp only); omega, (hO.ext hx17 (by intro q g1 g2; rcases g2 with g2 | g2 <;> (subst g2; first | exact g1 hcs1 | exact g1 hcz1))), hco2, hcn1, hcs1, hcz1, hcr, by (dsimp only); rw [hs1, hs2]; rw [← hlf9, drop_cons hxk, loseF, hnn2], (by rw [hs1]; exact kBs), (by rw [hs2]; exact kBz), (hGm.ext hx17 (by first | (intro hh; first | exact nn1 hh | exact nn2 hh | exact nn3 hh | exact nn4 hh | exact nn5 hh | exact nn6 hh | exact nn7 hh | exact nn8 hh | exact nn9 hh | exact nna hh | exact nnb hh | exact nnc hh | (rcases hh with hh | hh <;> first | exact nn1 hh | exact nn2 hh | exact nn3 hh | exact nn4 hh | exact nn5 hh | exact nn6 hh | exact nn7 hh | exact nn8 hh | exact nn9 hh | exact nna hh | exact nnb hh | exact nnc hh | omega) | omega) | (intro hh; have hh : _ = _ := hh; omega) | (intros; (try simp only [] at *); omega))), (hSn.ext hx17 (by intro q g1 g2 g3; have g4 := hcr q g1 g2; first | omega | (have g3 : q = _ := g3; subst g3; omega) | (rcases g3 with g3 | g3 <;> first | omega | (subst g3; omega)))), by (dsimp only); omega, (by omega), (hkm.step hx17 (by intros; (try simp only [] at *); omega))⟩ (by (dsimp only); omega)
              · obtain ⟨nm, hnm⟩ : ∃ nm, asc k nl = some nm := by
                  cases hq : asc k nl with
                  | none => rw [hq] at hc; simp at hc
                  | some nm => exact ⟨nm, rfl⟩
                have hnn2 : nameOf (tns (s0.chs.take dn) s0.fx) k = some nm := (nameOf_some (hinj dn)).2 ((hnl2 k nm).1 hnm)
                rw [hnm, Option.getD_some]
                refine X.skip ?_
                refine X.seq ?_
                refine X.regionD (fun _ => False) 13 (by kernel_rfl) (by kernel_rfl) (fun w18 hk18 hz18 => ?_)
                refine X.dTake 0 rfl (by kernel_rfl) (by kernel_rfl) (by kernel_rfl) (X.dwN rfl) (fun w' hk' => X.move rfl) ?_
                refine X.dTake 1 rfl (by kernel_rfl) (by kernel_rfl) (by kernel_rfl) (X.dwN rfl) (fun w' hk' => X.nilCk rfl) ?_
                refine X.dTake 2 rfl (by kernel_rfl) (by kernel_rfl) (by kernel_rfl) (X.dwN rfl) (fun w' hk' => X.fldB (j := 1) Tryz.underlying71 rfl rfl Tryz.sizeOf66 rfl) ?_
                refine X.dTake 3 rfl (by kernel_rfl) (by kernel_rfl) (by kernel_rfl) (X.dwN rfl) (fun w' hk' => X.load1B Tryz.isAgg66 ((hO.B.ext hx17 (by first | (intro hh; first | exact nn1 hh | exact nn2 hh | exact nn3 hh | exact nn4 hh | exact nn5 hh | exact nn6 hh | exact nn7 hh | exact nn8 hh | exact nn9 hh | exact nna hh | exact nnb hh | exact nnc hh | (rcases hh with hh | hh <;> first | exact nn1 hh | exact nn2 hh | exact nn3 hh | exact nn4 hh | exact nn5 hh | exact nn6 hh | exact nn7 hh | exact nn8 hh | exact nn9 hh | exact nna hh | exact nnb hh | exact nnc hh | omega) | omega) | (intro hh; have hh : _ = _ := hh; omega) | (intros; (try simp only [] at *); omega))).keep (hk18.trans hk')) rfl rfl) ?_
                refine X.dTake 4 rfl (by kernel_rfl) (by kernel_rfl) (by kernel_rfl) (X.dwN rfl) (fun w' hk' => X.move rfl) ?_
                refine X.dTake 5 rfl (by kernel_rfl) (by kernel_rfl) (by kernel_rfl) (X.dwN rfl) (fun w' hk' => X.nilCk rfl) ?_
                refine X.dTake 6 rfl (by kernel_rfl) (by kernel_rfl) (by kernel_rfl) (X.dwN rfl) (fun w' hk' => X.fldB (j := 2) Tryz.underlying71 rfl rfl Tryz.sizeOf3 rfl) ?_
                refine X.dTake 7 rfl (by kernel_rfl) (by kernel_rfl) (by kernel_rfl) (X.dwN rfl) (fun w' hk' => X.load1B Tryz.isAgg3 ((hO.B.ext hx17 (by first | (intro hh; first | exact nn1 hh | exact nn2 hh | exact nn3 hh | exact nn4 hh | exact nn5 hh | exact nn6 hh | exact nn7 hh | exact nn8 hh | exact nn9 hh | exact nna hh | exact nnb hh | exact nnc hh | (rcases hh with hh | hh <;> first | exact nn1 hh | exact nn2 hh | exact nn3 hh | exact nn4 hh | exact nn5 hh | exact nn6 hh | exact nn7 hh | exact nn8 hh | exact nn9 hh | exact nna hh | exact nnb hh | exact nnc hh | omega) | omega) | (intro hh; have hh : _ = _ := hh; omega) | (intros; (try simp only [] at *); omega))).keep (hk18.trans hk')) rfl rfl) ?_
                refine X.dTake 8 rfl (by kernel_rfl) (by kernel_rfl) (by kernel_rfl) (X.dwN rfl) (fun w' hk' => X.move rfl) ?_
                refine X.dTake 9 rfl (by kernel_rfl) (by kernel_rfl) (by kernel_rfl) (X.dwN rfl) (fun w' hk' => X.move rfl) ?_
                refine X.dE (i := 10) (by kernel_rfl) rfl (X.dwN rfl) (X.callE (CloneB_c _ ((hRk.keep hk18).rd KB_flat).2 (by omega)) Tryz.call54 rfl rfl) (by rintro _ w19 ⟨A2c, c2c, rfl, hccc, hMcc, hk19⟩ _; exact hk19.mono (fun _ _ h => h.elim)) ?_
                rintro _ w19 ⟨A2c, c2c, rfl, hccc, hMcc, hk19⟩
                have hk19' := hk19.size
                refine X.dTake 11 rfl (by kernel_rfl) (by kernel_rfl) (by kernel_rfl) (X.dwN rfl) (fun w' hk' => X.buildB (vs := [(0, .slice Ak (sizeK sz (looseL s0 (s0.near.take i2)).2 (fat s0.fs k)) (sizeK sz (looseL s0 (s0.near.take i2)).2 (fat s0.fs k))), (1, .slice A2c (sizeK sz (looseL s0 (s0.near.take i2)).2 (fat s0.fs k)) c2c)]) (cs := #[.slice Ak (sizeK sz (looseL s0 (s0.near.take i2)).2 (fat s0.fs k)) (sizeK sz (looseL s0 (s0.near.take i2)).2 (fat s0.fs k)), .slice A2c (sizeK sz (looseL s0 (s0.near.take i2)).2 (fat s0.fs k)) c2c]) rfl (by kernel_rfl)) ?_
                refine X.dE (i := 12) (by kernel_rfl) rfl (X.dwN rfl) (X.boxE rfl rfl) (by rintro _ w20 ⟨rfl, hB20, hk20, hz20⟩ _; exact hk20.mono (fun _ _ h => h.elim)) ?_
                rintro _ w20 ⟨rfl, hB20, hk20, hz20⟩
                refine X.dE (i := 13) (by kernel_rfl) rfl (X.dwN rfl) (X.updateV (enc := fun x : Int => Value.int .i64 x) (venc := fun v : Value => v) (a := (o.1.length : Int)) (v := ptrV w19.heap.size) Tryz.underlying66 (keyInt Tryz.underlying3) ((((hO.F.ext hx17 (by first | (intro hh; first | exact nn1 hh | exact nn2 hh | exact nn3 hh | exact nn4 hh | exact nn5 hh | exact nn6 hh | exact nn7 hh | exact nn8 hh | exact nn9 hh | exact nna hh | exact nnb hh | exact nnc hh | (rcases hh with hh | hh <;> first | exact nn1 hh | exact nn2 hh | exact nn3 hh | exact nn4 hh | exact nn5 hh | exact nn6 hh | exact nn7 hh | exact nn8 hh | exact nn9 hh | exact nna hh | exact nnb hh | exact nnc hh | omega) | omega) | (intro hh; have hh : _ = _ := hh; omega) | (intros; (try simp only [] at *); omega))).keep hk18).keep hk19).keep hk20) rfl rfl rfl) (fun _ _ _ h => absurd h (by decide)) ?_
                rintro _ w21 ⟨hGf, hxf, hzf⟩
                refine X.dEnd (by kernel_rfl) ?_
                refine X.seq ?_
                refine X.regionD (fun _ => False) 9 (by kernel_rfl) (by kernel_rfl) (fun w22 hk22 hz22 => ?_)
                refine X.dTake 0 rfl (by kernel_rfl) (by kernel_rfl) (by kernel_rfl) (X.dwN rfl) (fun w' hk' => X.move rfl) ?_
                refine X.dTake 1 rfl (by kernel_rfl) (by kernel_rfl) (by kernel_rfl) (X.dwN rfl) (fun w' hk' => X.nilCk rfl) ?_
                refine X.dTake 2 rfl (by kernel_rfl) (by kernel_rfl) (by kernel_rfl) (X.dwN rfl) (fun w' hk' => X.fldB (j := 3) Tryz.underlying71 rfl rfl Tryz.sizeOf67 rfl) ?_
                refine X.dTake 3 rfl (by kernel_rfl) (by kernel_rfl) (by kernel_rfl) (X.dwN rfl) (fun w' hk' => X.load1B Tryz.isAgg67 ((((hO.B.ext hx17 (by first | (intro hh; first | exact nn1 hh | exact nn2 hh | exact nn3 hh | exact nn4 hh | exact nn5 hh | exact nn6 hh | exact nn7 hh | exact nn8 hh | exact nn9 hh | exact nna hh | exact nnb hh | exact nnc hh | (rcases hh with hh | hh <;> first | exact nn1 hh | exact nn2 hh | exact nn3 hh | exact nn4 hh | exact nn5 hh | exact nn6 hh | exact nn7 hh | exact nn8 hh | exact nn9 hh | exact nna hh | exact nnb hh | exact nnc hh | omega) | omega) | (intro hh; have hh : _ = _ := hh; omega) | (intros; (try simp only [] at *); omega))).keep ((hk18.trans hk19).trans hk20)).ext hxf (by first | (intro hh; first | exact nn1 hh | exact nn2 hh | exact nn3 hh | exact nn4 hh | exact nn5 hh | exact nn6 hh | exact nn7 hh | exact nn8 hh | exact nn9 hh | exact nna hh | exact nnb hh | exact nnc hh | (rcases hh with hh | hh <;> first | exact nn1 hh | exact nn2 hh | exact nn3 hh | exact nn4 hh | exact nn5 hh | exact nn6 hh | exact nn7 hh | exact nn8 hh | exact nn9 hh | exact nna hh | exact nnb hh | exact nnc hh | omega) | omega) | (intro hh; have hh : _ = _ := hh; omega) | (intros; (try simp only [] at *); omega))).keep (hk22.trans hk')) rfl rfl) ?_
                refine X.dTake 4 rfl (by kernel_rfl) (by kernel_rfl) (by kernel_rfl) (X.dwN rfl) (fun w' hk' => X.move (v := .string _) rfl) ?_
                refine X.dTake 5 rfl (by kernel_rfl) (by kernel_rfl) (by kernel_rfl) (X.dwN rfl) (fun w' hk' => X.move rfl) ?_
                refine X.dTake 6 rfl (by kernel_rfl) (by kernel_rfl) (by kernel_rfl) (X.dwN rfl) (fun w' hk' => X.nilCk rfl) ?_
                refine X.dTake 7 rfl (by kernel_rfl) (by kernel_rfl) (by kernel_rfl) (X.dwN rfl) (fun w' hk' => X.fldB (j := 2) Tryz.underlying71 rfl rfl Tryz.sizeOf3 rfl) ?_
                refine X.dTake 8 rfl (by kernel_rfl) (by kernel_rfl) (by kernel_rfl) (X.dwN rfl) (fun w' hk' => X.load1B Tryz.isAgg3 ((((hO.B.ext hx17 (by first | (intro hh; first | exact nn1 hh | exact nn2 hh | exact nn3 hh | exact nn4 hh | exact nn5 hh | exact nn6 hh | exact nn7 hh | exact nn8 hh | exact nn9 hh | exact nna hh | exact nnb hh | exact nnc hh | (rcases hh with hh | hh <;> first | exact nn1 hh | exact nn2 hh | exact nn3 hh | exact nn4 hh | exact nn5 hh | exact nn6 hh | exact nn7 hh | exact nn8 hh | exact nn9 hh | exact nna hh | exact nnb hh | exact nnc hh | omega) | omega) | (intro hh; have hh : _ = _ := hh; omega) | (intros; (try simp only [] at *); omega))).keep ((hk18.trans hk19).trans hk20)).ext hxf (by first | (intro hh; first | exact nn1 hh | exact nn2 hh | exact nn3 hh | exact nn4 hh | exact nn5 hh | exact nn6 hh | exact nn7 hh | exact nn8 hh | exact nn9 hh | exact nna hh | exact nnb hh | exact nnc hh | (rcases hh with hh | hh <;> first | exact nn1 hh | exact nn2 hh | exact nn3 hh | exact nn4 hh | exact nn5 hh | exact nn6 hh | exact nn7 hh | exact nn8 hh | exact nn9 hh | exact nna hh | exact nnb hh | exact nnc hh | omega) | omega) | (intro hh; have hh : _ = _ := hh; omega) | (intros; (try simp only [] at *); omega))).keep (hk22.trans hk')) rfl rfl) ?_
                refine X.dE (i := 9) (by kernel_rfl) rfl (X.dwN rfl) (X.updateV (enc := fun x : ByteArray => Value.string x) (venc := fun v : Int => Value.int .i64 v) (a := nm) (v := (o.1.length : Int)) Tryz.underlying67 (keyStr Tryz.underlying9) ((((((hO.G.ext hx17 (by first | (intro hh; first | exact nn1 hh | exact nn2 hh | exact nn3 hh | exact nn4 hh | exact nn5 hh | exact nn6 hh | exact nn7 hh | exact nn8 hh | exact nn9 hh | exact nna hh | exact nnb hh | exact nnc hh | (rcases hh with hh | hh <;> first | exact nn1 hh | exact nn2 hh | exact nn3 hh | exact nn4 hh | exact nn5 hh | exact nn6 hh | exact nn7 hh | exact nn8 hh | exact nn9 hh | exact nna hh | exact nnb hh | exact nnc hh | omega) | omega) | (intro hh; have hh : _ = _ := hh; omega) | (intros; (try simp only [] at *); omega))).keep hk18).keep hk19).keep hk20).ext hxf (by first | (intro hh; first | exact nn1 hh | exact nn2 hh | exact nn3 hh | exact nn4 hh | exact nn5 hh | exact nn6 hh | exact nn7 hh | exact nn8 hh | exact nn9 hh | exact nna hh | exact nnb hh | exact nnc hh | (rcases hh with hh | hh <;> first | exact nn1 hh | exact nn2 hh | exact nn3 hh | exact nn4 hh | exact nn5 hh | exact nn6 hh | exact nn7 hh | exact nn8 hh | exact nn9 hh | exact nna hh | exact nnb hh | exact nnc hh | omega) | omega) | (intro hh; have hh : _ = _ := hh; omega) | (intros; (try simp only [] at *); omega))).keep hk22) rfl rfl rfl) (fun _ _ _ h => absurd h (by decide)) ?_
                rintro _ w23 ⟨hGd, hxd, hzd⟩
                refine X.dEnd (by kernel_rfl) ?_
                refine X.region ?_
                refine X.opw X.wN rfl (X.move rfl) ?_
                refine X.opw X.wN rfl (X.nilCk rfl) ?_
                refine X.opw X.wN rfl (X.fldB (j := 2) Tryz.underlying71 rfl rfl Tryz.sizeOf3 rfl) ?_
                refine X.opw X.wN rfl (X.load1B Tryz.isAgg3 (((((hO.B.ext hx17 (by first | (intro hh; first | exact nn1 hh | exact nn2 hh | exact nn3 hh | exact nn4 hh | exact nn5 hh | exact nn6 hh | exact nn7 hh | exact nn8 hh | exact nn9 hh | exact nna hh | exact nnb hh | exact nnc hh | (rcases hh with hh | hh <;> first | exact nn1 hh | exact nn2 hh | exact nn3 hh | exact nn4 hh | exact nn5 hh | exact nn6 hh | exact nn7 hh | exact nn8 hh | exact nn9 hh | exact nna hh | exact nnb hh | exact nnc hh | omega) | omega) | (intro hh; have hh : _ = _ := hh; omega) | (intros; (try simp only [] at *); omega))).keep ((hk18.trans hk19).trans hk20)).ext hxf (by first | (intro hh; first | exact nn1 hh | exact nn2 hh | exact nn3 hh | exact nn4 hh | exact nn5 hh | exact nn6 hh | exact nn7 hh | exact nn8 hh | exact nn9 hh | exact nna hh | exact nnb hh | exact nnc hh | (rcases hh with hh | hh <;> first | exact nn1 hh | exact nn2 hh | exact nn3 hh | exact nn4 hh | exact nn5 hh | exact nn6 hh | exact nn7 hh | exact nn8 hh | exact nn9 hh | exact nna hh | exact nnb hh | exact nnc hh | omega) | omega) | (intro hh; have hh : _ = _ := hh; omega) | (intros; (try simp only [] at *); omega))).keep hk22).ext hxd (by first | (intro hh; first | exact nn1 hh | exact nn2 hh | exact nn3 hh | exact nn4 hh | exact nn5 hh | exact nn6 hh | exact nn7 hh | exact nn8 hh | exact nn9 hh | exact nna hh | exact nnb hh | exact nnc hh | (rcases hh with hh | hh <;> first | exact nn1 hh | exact nn2 hh | exact nn3 hh | exact nn4 hh | exact nn5 hh | exact nn6 hh | exact nn7 hh | exact nn8 hh | exact nn9 hh | exact nna hh | exact nnb hh | exact nnc hh | omega) | omega) | (intro hh; have hh : _ = _ := hh; omega) | (intros; (try simp only [] at *); omega))) rfl rfl) ?_
                refine X.opw X.wN rfl (X.add (c := ((o.1.length : Nat) : Int) + 1) rfl rfl (by show IntKind.i64.wrap ((o.1.length : Int) + 1) = _; exact X.w_i64 (by omega))) ?_
                refine X.opw X.wN rfl (X.nilCk rfl) ?_
                refine X.opw X.wN rfl (X.fldB (j := 2) Tryz.underlying71 rfl rfl Tryz.sizeOf3 rfl) ?_
                refine X.opE X.wN rfl (X.storeE Tryz.sizeOf3 (((((hO.B.ext hx17 (by first | (intro hh; first | exact nn1 hh | exact nn2 hh | exact nn3 hh | exact nn4 hh | exact nn5 hh | exact nn6 hh | exact nn7 hh | exact nn8 hh | exact nn9 hh | exact nna hh | exact nnb hh | exact nnc hh | (rcases hh with hh | hh <;> first | exact nn1 hh | exact nn2 hh | exact nn3 hh | exact nn4 hh | exact nn5 hh | exact nn6 hh | exact nn7 hh | exact nn8 hh | exact nn9 hh | exact nna hh | exact nnb hh | exact nnc hh | omega) | omega) | (intro hh; have hh : _ = _ := hh; omega) | (intros; (try simp only [] at *); omega))).keep ((hk18.trans hk19).trans hk20)).ext hxf (by first | (intro hh; first | exact nn1 hh | exact nn2 hh | exact nn3 hh | exact nn4 hh | exact nn5 hh | exact nn6 hh | exact nn7 hh | exact nn8 hh | exact nn9 hh | exact nna hh | exact nnb hh | exact nnc hh | (rcases hh with hh | hh <;> first | exact nn1 hh | exact nn2 hh | exact nn3 hh | exact nn4 hh | exact nn5 hh | exact nn6 hh | exact nn7 hh | exact nn8 hh | exact nn9 hh | exact nna hh | exact nnb hh | exact nnc hh | omega) | omega) | (intro hh; have hh : _ = _ := hh; omega) | (intros; (try simp only [] at *); omega))).keep hk22).ext hxd (by first | (intro hh; first | exact nn1 hh | exact nn2 hh | exact nn3 hh | exact nn4 hh | exact nn5 hh | exact nn6 hh | exact nn7 hh | exact nn8 hh | exact nn9 hh | exact nna hh | exact nnb hh | exact nnc hh | (rcases hh with hh | hh <;> first | exact nn1 hh | exact nn2 hh | exact nn3 hh | exact nn4 hh | exact nn5 hh | exact nn6 hh | exact nn7 hh | exact nn8 hh | exact nn9 hh | exact nna hh | exact nnb hh | exact nnc hh | omega) | omega) | (intro hh; have hh : _ = _ := hh; omega) | (intros; (try simp only [] at *); omega))) rfl rfl rfl rfl) ?_
                rintro _ w24 ⟨hB24, hx24, hz24⟩
                refine X.opsEnd ?_
                refine X.inBlock ?_
                refine X.region ?_
                refine X.opw X.wN rfl (X.add (c := ((i2 + 1 : Nat) : Int)) rfl rfl (by rw [X.w_i64 (by omega)]; omega)) ?_
                refine X.opw X.wN rfl (X.move (v := .int .i64 _) rfl) ?_
                refine X.opsEnd ?_
                have hX := (Ext.andThen (Ext.andThen (Ext.andThen (Ext.andThen (Ext.andThen (Ext.andThen (Ext.andThen (Ext.andThen (Ext.refl (fun q => co2 q ≤ 3) _) hx17 (by intro q h1 h2; first | exact (h2 : False).elim | (have h2 : q = _ := h2; subst h2; omega) | (rcases h2 with h2 | h2 <;> (subst h2; omega)))) hk18 (by intro q h1 h2; first | exact (h2 : False).elim | (have h2 : q = _ := h2; subst h2; omega) | (rcases h2 with h2 | h2 <;> (subst h2; omega)))) hk19 (by intro q h1 h2; first | exact (h2 : False).elim | (have h2 : q = _ := h2; subst h2; omega) | (rcases h2 with h2 | h2 <;> (subst h2; omega)))) hk20 (by intro q h1 h2; first | exact (h2 : False).elim | (have h2 : q = _ := h2; subst h2; omega) | (rcases h2 with h2 | h2 <;> (subst h2; omega)))) hxf (by intro q h1 h2; first | exact (h2 : False).elim | (have h2 : q = _ := h2; subst h2; omega) | (rcases h2 with h2 | h2 <;> (subst h2; omega)))) hk22 (by intro q h1 h2; first | exact (h2 : False).elim | (have h2 : q = _ := h2; subst h2; omega) | (rcases h2 with h2 | h2 <;> (subst h2; omega)))) hxd (by intro q h1 h2; first | exact (h2 : False).elim | (have h2 : q = _ := h2; subst h2; omega) | (rcases h2 with h2 | h2 <;> (subst h2; omega)))) hx24 (by intro q h1 h2; first | exact (h2 : False).elim | (have h2 : q = _ := h2; subst h2; omega) | (rcases h2 with h2 | h2 <;> (subst h2; omega))))
                have hF9 := (((hGf.keep hk22).ext hxd (by first | (intro hh; first | exact nn1 hh | exact nn2 hh | exact nn3 hh | exact nn4 hh | exact nn5 hh | exact nn6 hh | exact nn7 hh | exact nn8 hh | exact nn9 hh | exact nna hh | exact nnb hh | exact nnc hh | (rcases hh with hh | hh <;> first | exact nn1 hh | exact nn2 hh | exact nn3 hh | exact nn4 hh | exact nn5 hh | exact nn6 hh | exact nn7 hh | exact nn8 hh | exact nn9 hh | exact nna hh | exact nnb hh | exact nnc hh | omega) | omega) | (intro hh; have hh : _ = _ := hh; omega) | (intros; (try simp only [] at *); omega))).ext hx24 (by first | (intro hh; first | exact nn1 hh | exact nn2 hh | exact nn3 hh | exact nn4 hh | exact nn5 hh | exact nn6 hh | exact nn7 hh | exact nn8 hh | exact nn9 hh | exact nna hh | exact nnb hh | exact nnc hh | (rcases hh with hh | hh <;> first | exact nn1 hh | exact nn2 hh | exact nn3 hh | exact nn4 hh | exact nn5 hh | exact nn6 hh | exact nn7 hh | exact nn8 hh | exact nn9 hh | exact nna hh | exact nnb hh | exact nnc hh | omega) | omega) | (intro hh; have hh : _ = _ := hh; omega) | (intros; (try simp only [] at *); omega)))
                have hG9 := (hGd.ext hx24 (by first | (intro hh; first | exact nn1 hh | exact nn2 hh | exact nn3 hh | exact nn4 hh | exact nn5 hh | exact nn6 hh | exact nn7 hh | exact nn8 hh | exact nn9 hh | exact nna hh | exact nnb hh | exact nnc hh | (rcases hh with hh | hh <;> first | exact nn1 hh | exact nn2 hh | exact nn3 hh | exact nn4 hh | exact nn5 hh | exact nn6 hh | exact nn7 hh | exact nn8 hh | exact nn9 hh | exact nna hh | exact nnb hh | exact nnc hh | omega) | omega) | (intro hh; have hh : _ = _ := hh; omega) | (intros; (try simp only [] at *); omega)))
                have hR9 := (((((((hRk.keep hk18).keep hk19).keep hk20).ext hxf (by intros; omega) (by intro q g1 g2; (try simp only [] at g1); have g2 : q = _ := g2; omega)).keep hk22).ext hxd (by intros; omega) (by intro q g1 g2; (try simp only [] at g1); have g2 : q = _ := g2; omega)).ext hx24 (by intros; omega) (by intro q g1 g2; (try simp only [] at g1); have g2 : q = _ := g2; omega))
                have hM9 := (((((hMcc.keep hk20).ext hxf (by intros; omega) (by intro q g1 g2; (try simp only [] at g1); have g2 : q = _ := g2; omega)).keep hk22).ext hxd (by intros; omega) (by intro q g1 g2; (try simp only [] at g1); have g2 : q = _ := g2; omega)).ext hx24 (by intros; omega) (by intro q g1 g2; (try simp only [] at g1); have g2 : q = _ := g2; omega))
                obtain ⟨co3, hO3, hc3⟩ := hO.addF (f := ((keptB kp (looseL s0 (s0.near.take i2)).1 (s0.spots k) (fat s0.fs k) (sizeK sz (looseL s0 (s0.near.take i2)).2 (fat s0.fs k))), (keptB kp (looseL s0 (s0.near.take i2)).1 (s0.spots k) (fat s0.fs k) (sizeK sz (looseL s0 (s0.near.take i2)).2 (fat s0.fs k))))) (d' := put nm (o.1.length : Int) o.2) (p := w19.heap.size) (h1 := w18.heap.size) (h2 := w19.heap.size) (A1n := 0) hX hB24 hF9 hG9 (by omega) (by omega) (by omega) (by omega) ((((hB20.ext hxf (by first | (intro hh; first | exact nn1 hh | exact nn2 hh | exact nn3 hh | exact nn4 hh | exact nn5 hh | exact nn6 hh | exact nn7 hh | exact nn8 hh | exact nn9 hh | exact nna hh | exact nnb hh | exact nnc hh | (rcases hh with hh | hh <;> first | exact nn1 hh | exact nn2 hh | exact nn3 hh | exact nn4 hh | exact nn5 hh | exact nn6 hh | exact nn7 hh | exact nn8 hh | exact nn9 hh | exact nna hh | exact nnb hh | exact nnc hh | omega) | omega) | (intro hh; have hh : _ = _ := hh; omega) | (intros; (try simp only [] at *); omega))).keep hk22).ext hxd (by first | (intro hh; first | exact nn1 hh | exact nn2 hh | exact nn3 hh | exact nn4 hh | exact nn5 hh | exact nn6 hh | exact nn7 hh | exact nn8 hh | exact nn9 hh | exact nna hh | exact nnb hh | exact nnc hh | (rcases hh with hh | hh <;> first | exact nn1 hh | exact nn2 hh | exact nn3 hh | exact nn4 hh | exact nn5 hh | exact nn6 hh | exact nn7 hh | exact nn8 hh | exact nn9 hh | exact nna hh | exact nnb hh | exact nnc hh | omega) | omega) | (intro hh; have hh : _ = _ := hh; omega) | (intros; (try simp only [] at *); omega))).ext hx24 (by first | (intro hh; first | exact nn1 hh | exact nn2 hh | exact nn3 hh | exact nn4 hh | exact nn5 hh | exact nn6 hh | exact nn7 hh | exact nn8 hh | exact nn9 hh | exact nna hh | exact nnb hh | exact nnc hh | (rcases hh with hh | hh <;> first | exact nn1 hh | exact nn2 hh | exact nn3 hh | exact nn4 hh | exact nn5 hh | exact nn6 hh | exact nn7 hh | exact nn8 hh | exact nn9 hh | exact nna hh | exact nnb hh | exact nnc hh | omega) | omega) | (intro hh; have hh : _ = _ := hh; omega) | (intros; (try simp only [] at *); omega))) (hR9.mono (fun q _ g => ⟨by omega, by omega⟩)) (hM9.mono (fun q _ g => ⟨by omega, by omega⟩))
                refine hback (i2 + 1, (o.1 ++ [((keptB kp (looseL s0 (s0.near.take i2)).1 (s0.spots k) (fat s0.fs k) (sizeK sz (looseL s0 (s0.near.take i2)).2 (fat s0.fs k))), (keptB kp (looseL s0 (s0.near.take i2)).1 (s0.spots k) (fat s0.fs k) (sizeK sz (looseL s0 (s0.near.take i2)).2 (fat s0.fs k))))], put nm (o.1.length : Int) o.2)) _ _ ⟨rfl, rfl, rfl, rfl, rfl, rfl, rfl, rfl, trivial⟩ ⟨co3, pt2 ++ [w19.heap.size], by (dsimp only); omega, hO3, (fun q hq => if g : q < wm.heap.size then hco2 q (by rw [← hc3 q g]; exact hq) else (by omega)), (by rw [hc3 _ (by omega)]; exact hcn1), (by rw [hc3 _ (by omega)]; exact hcs1), (by rw [hc3 _ (by omega)]; exact hcz1), (fun q a1 a2 => by rw [hc3 _ (by omega)]; exact hcr q a1 a2), by (dsimp only); rw [hs1, hs2]; rw [← hlf9, drop_cons hxk, loseF, hnn2], (by rw [hs1]; exact (((((kBs.keep ((hk18.trans hk19).trans hk20)).ext hxf (by first | (intro hh; first | exact nn1 hh | exact nn2 hh | exact nn3 hh | exact nn4 hh | exact nn5 hh | exact nn6 hh | exact nn7 hh | exact nn8 hh | exact nn9 hh | exact nna hh | exact nnb hh | exact nnc hh | (rcases hh with hh | hh <;> first | exact nn1 hh | exact nn2 hh | exact nn3 hh | exact nn4 hh | exact nn5 hh | exact nn6 hh | exact nn7 hh | exact nn8 hh | exact nn9 hh | exact nna hh | exact nnb hh | exact nnc hh | omega) | omega) | (intro hh; have hh : _ = _ := hh; omega) | (intros; (try simp only [] at *); omega))).keep hk22).ext hxd (by first | (intro hh; first | exact nn1 hh | exact nn2 hh | exact nn3 hh | exact nn4 hh | exact nn5 hh | exact nn6 hh | exact nn7 hh | exact nn8 hh | exact nn9 hh | exact nna hh | exact nnb hh | exact nnc hh | (rcases hh with hh | hh <;> first | exact nn1 hh | exact nn2 hh | exact nn3 hh | exact nn4 hh | exact nn5 hh | exact nn6 hh | exact nn7 hh | exact nn8 hh | exact nn9 hh | exact nna hh | exact nnb hh | exact nnc hh | omega) | omega) | (intro hh; have hh : _ = _ := hh; omega) | (intros; (try simp only [] at *); omega))).ext hx24 (by first | (intro hh; first | exact nn1 hh | exact nn2 hh | exact nn3 hh | exact nn4 hh | exact nn5 hh | exact nn6 hh | exact nn7 hh | exact nn8 hh | exact nn9 hh | exact nna hh | exact nnb hh | exact nnc hh | (rcases hh with hh | hh <;> first | exact nn1 hh | exact nn2 hh | exact nn3 hh | exact nn4 hh | exact nn5 hh | exact nn6 hh | exact nn7 hh | exact nn8 hh | exact nn9 hh | exact nna hh | exact nnb hh | exact nnc hh | omega) | omega) | (intro hh; have hh : _ = _ := hh; omega) | (intros; (try simp only [] at *); omega)))), (by rw [hs2]; exact (((((kBz.keep ((hk18.trans hk19).trans hk20)).ext hxf (by first | (intro hh; first | exact nn1 hh | exact nn2 hh | exact nn3 hh | exact nn4 hh | exact nn5 hh | exact nn6 hh | exact nn7 hh | exact nn8 hh | exact nn9 hh | exact nna hh | exact nnb hh | exact nnc hh | (rcases hh with hh | hh <;> first | exact nn1 hh | exact nn2 hh | exact nn3 hh | exact nn4 hh | exact nn5 hh | exact nn6 hh | exact nn7 hh | exact nn8 hh | exact nn9 hh | exact nna hh | exact nnb hh | exact nnc hh | omega) | omega) | (intro hh; have hh : _ = _ := hh; omega) | (intros; (try simp only [] at *); omega))).keep hk22).ext hxd (by first | (intro hh; first | exact nn1 hh | exact nn2 hh | exact nn3 hh | exact nn4 hh | exact nn5 hh | exact nn6 hh | exact nn7 hh | exact nn8 hh | exact nn9 hh | exact nna hh | exact nnb hh | exact nnc hh | (rcases hh with hh | hh <;> first | exact nn1 hh | exact nn2 hh | exact nn3 hh | exact nn4 hh | exact nn5 hh | exact nn6 hh | exact nn7 hh | exact nn8 hh | exact nn9 hh | exact nna hh | exact nnb hh | exact nnc hh | omega) | omega) | (intro hh; have hh : _ = _ := hh; omega) | (intros; (try simp only [] at *); omega))).ext hx24 (by first | (intro hh; first | exact nn1 hh | exact nn2 hh | exact nn3 hh | exact nn4 hh | exact nn5 hh | exact nn6 hh | exact nn7 hh | exact nn8 hh | exact nn9 hh | exact nna hh | exact nnb hh | exact nnc hh | (rcases hh with hh | hh <;> first | exact nn1 hh | exact nn2 hh | exact nn3 hh | exact nn4 hh | exact nn5 hh | exact nn6 hh | exact nn7 hh | exact nn8 hh | exact nn9 hh | exact nna hh | exact nnb hh | exact nnc hh | omega) | omega) | (intro hh; have hh : _ = _ := hh; omega) | (intros; (try simp only [] at *); omega)))), ((((((hGm.ext hx17 (by first | (intro hh; first | exact nn1 hh | exact nn2 hh | exact nn3 hh | exact nn4 hh | exact nn5 hh | exact nn6 hh | exact nn7 hh | exact nn8 hh | exact nn9 hh | exact nna hh | exact nnb hh | exact nnc hh | (rcases hh with hh | hh <;> first | exact nn1 hh | exact nn2 hh | exact nn3 hh | exact nn4 hh | exact nn5 hh | exact nn6 hh | exact nn7 hh | exact nn8 hh | exact nn9 hh | exact nna hh | exact nnb hh | exact nnc hh | omega) | omega) | (intro hh; have hh : _ = _ := hh; omega) | (intros; (try simp only [] at *); omega))).keep ((hk18.trans hk19).trans hk20)).ext hxf (by first | (intro hh; first | exact nn1 hh | exact nn2 hh | exact nn3 hh | exact nn4 hh | exact nn5 hh | exact nn6 hh | exact nn7 hh | exact nn8 hh | exact nn9 hh | exact nna hh | exact nnb hh | exact nnc hh | (rcases hh with hh | hh <;> first | exact nn1 hh | exact nn2 hh | exact nn3 hh | exact nn4 hh | exact nn5 hh | exact nn6 hh | exact nn7 hh | exact nn8 hh | exact nn9 hh | exact nna hh | exact nnb hh | exact nnc hh | omega) | omega) | (intro hh; have hh : _ = _ := hh; omega) | (intros; (try simp only [] at *); omega))).keep hk22).ext hxd (by first | (intro hh; first | exact nn1 hh | exact nn2 hh | exact nn3 hh | exact nn4 hh | exact nn5 hh | exact nn6 hh | exact nn7 hh | exact nn8 hh | exact nn9 hh | exact nna hh | exact nnb hh | exact nnc hh | (rcases hh with hh | hh <;> first | exact nn1 hh | exact nn2 hh | exact nn3 hh | exact nn4 hh | exact nn5 hh | exact nn6 hh | exact nn7 hh | exact nn8 hh | exact nn9 hh | exact nna hh | exact nnb hh | exact nnc hh | omega) | omega) | (intro hh; have hh : _ = _ := hh; omega) | (intros; (try simp only [] at *); omega))).ext hx24 (by first | (intro hh; first | exact nn1 hh | exact nn2 hh | exact nn3 hh | exact nn4 hh | exact nn5 hh | exact nn6 hh | exact nn7 hh | exact nn8 hh | exact nn9 hh | exact nna hh | exact nnb hh | exact nnc hh | (rcases hh with hh | hh <;> first | exact nn1 hh | exact nn2 hh | exact nn3 hh | exact nn4 hh | exact nn5 hh | exact nn6 hh | exact nn7 hh | exact nn8 hh | exact nn9 hh | exact nna hh | exact nnb hh | exact nnc hh | omega) | omega) | (intro hh; have hh : _ = _ := hh; omega) | (intros; (try simp only [] at *); omega))), ((((((((hSn.ext hx17 (by intro q g1 g2 g3; have g4 := hcr q g1 g2; first | omega | (have g3 : q = _ := g3; subst g3; omega) | (rcases g3 with g3 | g3 <;> first | omega | (subst g3; omega)))).keep hk18).keep hk19).keep hk20).ext hxf (by intro q g1 g2 g3; have g4 := hcr q g1 g2; first | omega | (have g3 : q = _ := g3; subst g3; omega) | (rcases g3 with g3 | g3 <;> first | omega | (subst g3; omega)))).keep hk22).ext hxd (by intro q g1 g2 g3; have g4 := hcr q g1 g2; first | omega | (have g3 : q = _ := g3; subst g3; omega) | (rcases g3 with g3 | g3 <;> first | omega | (subst g3; omega)))).ext hx24 (by intro q g1 g2 g3; have g4 := hcr q g1 g2; first | omega | (have g3 : q = _ := g3; subst g3; omega) | (rcases g3 with g3 | g3 <;> first | omega | (subst g3; omega)))), by (dsimp only); rw [List.length_append]; simp; omega, (by omega), ((((((((hkm.step hx17 (by intros; (try simp only [] at *); omega)).trans hk18).trans hk19).trans hk20).step hxf (by intros; (try simp only [] at *); omega)).trans hk22).step hxd (by intros; (try simp only [] at *); omega)).step hx24 (by intros; (try simp only [] at *); omega))⟩ (by (dsimp only); omega)
            · refine X.opsEnd ?_
              refine X.seq ?_
              refine X.condF rfl ?_
              refine X.exit rfl ?_
              refine X.seq ?_
              refine X.region ?_
              refine X.opw X.wN rfl (X.move rfl) ?_
              refine X.opw X.wN rfl (X.move rfl) ?_
              refine X.opw X.wN rfl (X.nilCk rfl) ?_
              refine X.opw X.wN rfl (X.fldB (j := 3) Tryz.underlying71 rfl rfl Tryz.sizeOf67 rfl) ?_
              refine X.opw X.wN rfl (X.load1B Tryz.isAgg67 hO.B rfl rfl) ?_
              refine X.opE X.wN rfl (X.callE (mapClone_c _ hO.G) Tryz.call51 rfl rfl) ?_
              rintro _ w25 ⟨rfl, gX, hk25, hz25⟩
              refine X.opw X.wN rfl (X.nilCk rfl) ?_
              refine X.opw X.wN rfl (X.fldB (j := 4) Tryz.underlying71 rfl rfl Tryz.sizeOf67 rfl) ?_
              refine X.opE X.wN rfl (X.storeE Tryz.sizeOf67 (hO.B.keep hk25) rfl rfl rfl rfl) ?_
              rintro _ w26 ⟨hB26, hx26, hz26⟩
              refine X.opsEnd ?_
              refine X.seq ?_
              refine X.region ?_
              refine X.opw X.wN rfl (X.move rfl) ?_
              refine X.opw X.wN rfl (X.assign rfl) ?_
              refine X.opw X.wN rfl (X.assign rfl) ?_
              refine X.opsEnd ?_
              refine X.ret2 (v2 := (.int .i64 _)) Tryz.func15 Tryz.results15 rfl rfl ?_
              have hfin : o = s0.left dn kp sz := by
                have : s0.near.drop i2 = [] := List.drop_of_length_le (by omega)
                rw [this] at hlf9; exact hlf9
              have hX := (Ext.andThen (Ext.andThen (Ext.refl (fun q => co2 q = 1) _) hk25 (by intro q h1 h2; first | exact (h2 : False).elim | (have h2 : q = _ := h2; subst h2; exact o1))) hx26 (by intro q h1 h2; first | exact (h2 : False).elim | (have h2 : q = _ := h2; subst h2; exact o1)))
              have hXs := hX.size
              obtain ⟨co3, hcol⟩ : ∃ co3, co3 = rec' co2 wm.heap.size w26.heap.size 4 := ⟨_, rfl⟩
              have hold : ∀ q, q < wm.heap.size → co3 q = co2 q := fun q hq => by rw [hcol]; exact rec_old hq
              have P := hO.part (col' := co3) (fun v => v = 1) hX hold (fun q hq ht => ht)
              refine ⟨((hkm.trans hk25).step hx26 (by intros; (try simp only [] at *); omega)), .inr ⟨by omega, bo, co3, rfl, ?_, fun q hq => ?_⟩⟩
              · rw [Int.toNat_natCast, DS.lose, ← hfin]
                exact ⟨bfo, bdo, wm.heap.size, blo, none, 0, 0, pt2, hB26, P.F (by decide), P.G (by decide), (gX.ext hx26 (by first | (intro hh; first | exact nn1 hh | exact nn2 hh | exact nn3 hh | exact nn4 hh | exact nn5 hh | exact nn6 hh | exact nn7 hh | exact nn8 hh | exact nn9 hh | exact nna hh | exact nnb hh | exact nnc hh | (rcases hh with hh | hh <;> first | exact nn1 hh | exact nn2 hh | exact nn3 hh | exact nn4 hh | exact nn5 hh | exact nn6 hh | exact nn7 hh | exact nn8 hh | exact nn9 hh | exact nna hh | exact nnb hh | exact nnc hh | omega) | omega) | (intro hh; have hh : _ = _ := hh; omega) | (intros; (try simp only [] at *); omega))), P.L (by decide), P.M (by decide), P.cb, P.cf, P.cd, (by rw [hcol]; exact rec_new (by omega) (by omega)), P.cl, (fun q hq => by rw [hcol] at hq; exact rec_lt hO.lt hXs hq), P.pl, fun k q f a1 a2 => P.fl k q f a1 a2 (fun j _ _ => by omega)⟩
              · by_cases g : q < wm.heap.size
                · have := hco2 q (by rw [← hold q g]; exact hq)
                  omega
                · omega
          · refine X.d1E (i := 7) rfl (X.dwN rfl) (X.boxE rfl rfl) (by rintro _ w27 ⟨rfl, hB27, hk27, hz27⟩ _; exact hk27.mono (fun _ _ h => h.elim)) ?_
            rintro _ w27 ⟨rfl, hB27, hk27, hz27⟩
            refine X.dE (i := 3) (by kernel_rfl) rfl (X.dwN rfl) (X.boxE rfl rfl) (by rintro _ w28 ⟨rfl, hB28, hk28, hz28⟩ _; exact hk28.mono (fun _ _ h => h.elim)) ?_
            rintro _ w28 ⟨rfl, hB28, hk28, hz28⟩
            refine X.dTake 8 rfl (by kernel_rfl) (by kernel_rfl) (by kernel_rfl) (X.dwN rfl) (fun w' hk' => X.assign rfl) ?_
            refine X.dStep (i := 9) (by kernel_rfl) rfl (X.dwN rfl) (X.assign rfl) (fun h => absurd h (by decide)) ?_
            refine X.dEnd (by kernel_rfl) ?_
            refine X.seq ?_
            refine X.seq ?_
            refine X.region ?_
            refine X.opw X.wN rfl (X.move rfl) ?_
            refine X.opE X.wN rfl (X.callE (near_c _ (h.keep (((hkn.trans hk13).trans hk27).trans hk28)) hok (by rw [DS.size]; omega)) Tryz.call49 rfl rfl) ?_
            rintro _ w29 ⟨An, cn, rfl, hcn, hMn, hk29⟩
            have hk29' := hk29.size
            refine X.opw X.wN rfl (X.lenSl Tryz.underlying95 rfl) ?_
            refine X.opw X.wN rfl (X.move rfl) ?_
            refine X.opsEnd ?_
            refine X.block ?_
            obtain ⟨_, _, e9, _, gNr0⟩ := hMn.slF KI_flat w28.heap.size (fun q hq => hq.1)
            injection e9 with e91 e92 e93
            subst e91 e93
            clear e92
            have hnnl : s0.near.length = s0.near.length := rfl
            have gOm := ((((hO1.keep hk13).keep hk27).keep hk28).keep hk29)
            have gNm := (hG1.keep (((hk13.trans hk27).trans hk28).trans hk29))
            have hz0 : ∀ q, w9.heap.size ≤ q → co q = 0 := fun q hq => Classical.byContradiction fun e => by have := hOl q e; omega
            refine X.loopL (σ := Nat × (List FILE × DIR)) (fun s => [(0, ptrV b), (9, ptrV bo), (11, .map (some w9.heap.size)), (14, ptrV w27.heap.size), (15, ptrV w13.heap.size), (86, .slice An s0.near.length cn), (87, .int .i64 (s0.near.length : Int)), (88, .int .i64 (s.1 : Int))]) (fun s w' => ∃ (co : Nat → Nat) (pt : List Nat), s.1 ≤ s0.near.length ∧ DkB co w' bo bfo bdo bxo blo none 0 0 pt (DS.mk0 s0.rm s.2.1 s.2.2 []) ∧ (∀ q, co q ≠ 0 → wi.heap.size ≤ q) ∧ co w9.heap.size = 0 ∧ co w27.heap.size = 0 ∧ co w13.heap.size = 0 ∧ (∀ q, w28.heap.size ≤ q → q < w29.heap.size → co q = 0) ∧ loseF s0 (tns (s0.chs.take dn) s0.fx) kp sz (s0.near.drop s.1) (looseL s0 (s0.near.take s.1)).1 (looseL s0 (s0.near.take s.1)).2 s.2 = s0.left dn kp sz ∧ Blk w' w27.heap.size (kpL Aq1 q1 r1 (((looseL s0 (s0.near.take s.1)).1 : Nat) : Int)) 103 ∧ Blk w' w13.heap.size (kpL Aq2 q2 r2 (((looseL s0 (s0.near.take s.1)).2 : Nat) : Int)) 103 ∧ MpV (fun x : Int => Value.int .i64 x) (fun v : ByteArray => Value.string v) w' w9.heap.size nl ∧ Sl KI w28.heap.size w29.heap.size w' An s0.near.length s0.near ∧ s.2.1.length ≤ s.1 ∧ w29.heap.size ≤ w'.heap.size ∧ Keep w w') (fun s => s0.near.length - s.1) (0, ([], [])) ⟨rfl, rfl, rfl, rfl, rfl, rfl, rfl, rfl, trivial⟩ ⟨co, [], Nat.zero_le _, gOm, hco, hz0 _ (by omega), hz0 _ (by omega), hz0 _ (by omega), fun q hq _ => hz0 q (by omega), rfl, (hB28.keep hk29), (hB27.keep (hk28.trans hk29)), gNm, gNr0, Nat.le_refl _, Nat.le_refl _, ((((hkn.trans hk13).trans hk27).trans hk28).trans hk29)⟩ ?_
            rintro ⟨i2, o⟩ e wm ⟨co2, pt2, hi2, hO, hco2, hcn1, hcs1, hcz1, hcr, hlf9, gBs, gBz, hGm, hSn, hol, hwn, hkm⟩ hback
            dsimp only at hi2 hO hlf9 gBs gBz hol ⊢
            have hkm' := hkm.size
            have hOl2 := hO.lt
            have o1 := hO.cb
            have o2 := hO.cf
            have o3 := hO.cd
            have p1 := hco2 bo (by omega)
            have p2 := hco2 bfo (by omega)
            have p3 := hco2 bdo (by omega)
            have hb1 := hO.B.lt
            have hb2 := hO.F.lt
            have hb3 := hO.G.lt
            have hb4 := gBs.lt
            have hb5 := gBz.lt
            have hb6 := hGm.lt
            have nn1 : Hid (bo ≠ w27.heap.size) := fun e => by rw [e] at o1; omega
            have nn2 : Hid (bo ≠ w13.heap.size) := fun e => by rw [e] at o1; omega
            have nn3 : Hid (bfo ≠ w27.heap.size) := fun e => by rw [e] at o2; omega
            have nn4 : Hid (bfo ≠ w13.heap.size) := fun e => by rw [e] at o2; omega
            have nn5 : Hid (bdo ≠ w27.heap.size) := fun e => by rw [e] at o3; omega
            have nn6 : Hid (bdo ≠ w13.heap.size) := fun e => by rw [e] at o3; omega
            have nn7 : Hid (bo ≠ bfo) := fun e => by rw [e] at o1; omega
            have nn8 : Hid (bo ≠ bdo) := fun e => by rw [e] at o1; omega
            have nn9 : Hid (bfo ≠ bdo) := fun e => by rw [e] at o2; omega
            have nna : Hid (bo ≠ w9.heap.size) := fun e => by rw [e] at o1; omega
            have nnb : Hid (bfo ≠ w9.heap.size) := fun e => by rw [e] at o2; omega
            have nnc : Hid (bdo ≠ w9.heap.size) := fun e => by rw [e] at o3; omega
            have hll := looseL_le hok (s0.near.take i2)
            have htl : (s0.near.take i2).length = i2 := by rw [List.length_take]; omega
            rw [htl] at hll
            refine X.seq ?_
            refine X.region ?_
            refine X.opP X.wN rfl rfl (X.lss rfl rfl) (fun h89 => ?_) (fun h89 => ?_)
            · obtain ⟨k, hxk⟩ := getN i2 hnnl (by omega)
              obtain ⟨hk0, hk1⟩ := near_ok hok k (List.mem_of_getElem? hxk)
              obtain ⟨pf, f, A1, n1, c1, A2, n2, c2, hfb, hpf, hff, hn1, hn2, hfl1, hpc, hBf, hM1, hM2⟩ := h.at_ hk0 hk1
              have hlf := hok.len hff
              have hfat := fat_at hff
              have hskl := sizeK_le hok hff sz (looseL s0 (s0.near.take i2)).2
              have hstep : looseL s0 (s0.near.take (i2 + 1)) = ((looseL s0 (s0.near.take i2)).1 + (s0.spots k).length, (looseL s0 (s0.near.take i2)).2 + cntK f) := by
                rw [take_at hxk, looseL_app, looseL, looseL, hfat]; simp [cntK]
              have hs1 : (looseL s0 (s0.near.take (i2 + 1))).1 = (looseL s0 (s0.near.take i2)).1 + (s0.spots k).length := by rw [hstep]
              have hs2 : (looseL s0 (s0.near.take (i2 + 1))).2 = (looseL s0 (s0.near.take i2)).2 + cntK (fat s0.fs k) := by rw [hstep, hfat]
              rw [← hfat] at hskl
              refine X.opsEnd ?_
              refine X.seq ?_
              refine X.condT rfl ?_
              refine X.skip ?_
              refine X.seq ?_
              refine X.block ?_
              refine X.seq ?_
              refine X.region ?_
              refine X.opw X.wN rfl (X.idxS hSn Tryz.underlying95 Tryz.sizeOf3 rfl rfl ⟨by omega, by omega⟩) ?_
              refine X.opw X.wN rfl (X.loadS Tryz.isAgg3 hSn hxk rfl (fun _ h => by rw [h.1]; rfl)) ?_
              refine X.opw X.wN rfl (X.assign (v := .int .i64 _) rfl) ?_
              refine X.opsEnd ?_
              refine X.seq ?_
              refine X.region ?_
              refine X.opw X.wN rfl (X.move rfl) ?_
              refine X.opw X.wN rfl (X.move (v := .int .i64 _) rfl) ?_
              refine X.opw X.wN rfl (X.move rfl) ?_
              refine X.opw X.wN rfl (X.move rfl) ?_
              refine X.opE X.wN rfl (X.callE (kept_c k (looseL s0 (s0.near.take i2)).1 (looseL s0 (s0.near.take i2)).2 _ (h.keep hkm) hok hk0 hk1 gBs gBz (hS1.keep hkm) (hS2.keep hkm) (.inr (by omega)) (.inr (by omega)) (by omega) (Classical.byContradiction fun e => by have := hlt _ e; omega) (Classical.byContradiction fun e => by have := hlt _ e; omega) (by omega) (by omega) (by omega)) Tryz.call53 rfl rfl) ?_
              rintro _ w30 ⟨Ak, rfl, hRk, kBs, kBz, hx30⟩
              have hx30' := hx30.size
              refine X.opw X.wN rfl (X.assign rfl) ?_
              refine X.opsEnd ?_
              refine X.seq ?_
              refine X.region ?_
              refine X.opw X.wN rfl (X.move rfl) ?_
              refine X.opw X.wN rfl (X.move (v := .int .i64 _) rfl) ?_
              refine X.opw X.wN rfl (X.lookupOkV (enc := fun x : Int => Value.int .i64 x) (venc := fun v : ByteArray => Value.string v) (z := ⟨#[]⟩) (a := k) Tryz.underlying100 (keyInt Tryz.underlying3) Tryz.zeroValue9 (hGm.ext hx30 (by first | (intro hh; first | exact nn1 hh | exact nn2 hh | exact nn3 hh | exact nn4 hh | exact nn5 hh | exact nn6 hh | exact nn7 hh | exact nn8 hh | exact nn9 hh | exact nna hh | exact nnb hh | exact nnc hh | (rcases hh with hh | hh <;> first | exact nn1 hh | exact nn2 hh | exact nn3 hh | exact nn4 hh | exact nn5 hh | exact nn6 hh | exact nn7 hh | exact nn8 hh | exact nn9 hh | exact nna hh | exact nnb hh | exact nnc hh | omega) | omega) | (intro hh; have hh : _ = _ := hh; omega) | (intros; (try simp only [] at *); omega))) rfl rfl) ?_
              refine X.opw X.wN rfl (X.move rfl) ?_
              refine X.opw X.wN rfl (X.extr rfl rfl) ?_
              refine X.opw X.wN rfl (X.extr rfl rfl) ?_
              refine X.opw X.wN rfl (X.assign (v := .string _) rfl) ?_
              refine X.opw X.wN rfl (X.assign (v := .bool _) rfl) ?_
              refine X.opsEnd ?_
              refine X.seq ?_
              refine X.seq ?_
              refine X.region ?_
              refine X.opw X.wN rfl (X.move (v := .bool _) rfl) ?_
              refine X.opw X.wN rfl (X.not_ rfl) ?_
              refine X.opsEnd ?_
              refine X.condB rfl (fun hc => ?_) (fun hc => ?_)
              · have hnn2 : nameOf (tns (s0.chs.take dn) s0.fx) k = none := by
                  cases hq : nameOf (tns (s0.chs.take dn) s0.fx) k with
                  | none => rfl
                  | some nm =>
                    have h5 := (hnl2 k nm).2 ((nameOf_some (hinj dn)).1 hq)
                    rw [h5] at hc; simp at hc
                refine X.exit rfl ?_
                refine X.region ?_
                refine X.opw X.wN rfl (X.add (c := ((i2 + 1 : Nat) : Int)) rfl rfl (by rw [X.w_i64 (by omega)]; omega)) ?_
                refine X.opw X.wN rfl (X.move (v := .int .i64 _) rfl) ?_
                refine X.opsEnd ?_
                refine hback (i2 + 1, o) _ _ ⟨rfl, rfl, rfl, rfl, rfl, rfl, rfl, rfl, trivial⟩ ⟨co2, pt2, by (dsimp only); omega, (hO.ext hx30 (by intro q g1 g2; rcases g2 with g2 | g2 <;> (subst g2; first | exact g1 hcs1 | exact g1 hcz1))), hco2, hcn1, hcs1, hcz1, hcr, by (dsimp only); rw [hs1, hs2]; rw [← hlf9, drop_cons hxk, loseF, hnn2], (by rw [hs1]; exact kBs), (by rw [hs2]; exact kBz), (hGm.ext hx30 (by first | (intro hh; first | exact nn1 hh | exact nn2 hh | exact nn3 hh | exact nn4 hh | exact nn5 hh | exact nn6 hh | exact nn7 hh | exact nn8 hh | exact nn9 hh | exact nna hh | exact nnb hh | exact nnc hh | (rcases hh with hh | hh <;> first | exact nn1 hh | exact nn2 hh | exact nn3 hh | exact nn4 hh | exact nn5 hh | exact nn6 hh | exact nn7 hh | exact nn8 hh | exact nn9 hh | exact nna hh | exact nnb hh | exact nnc hh | omega) | omega) | (intro hh; have hh : _ = _ := hh; omega) | (intros; (try simp only [] at *); omega))), (hSn.ext hx30 (by intro q g1 g2 g3; have g4 := hcr q g1 g2; first | omega | (have g3 : q = _ := g3; subst g3; omega) | (rcases g3 with g3 | g3 <;> first | omega | (subst g3; omega)))), by (dsimp only); omega, (by omega), (hkm.step hx30 (by intros; (try simp only [] at *); omega))⟩ (by (dsimp only); omega)
              · obtain ⟨nm, hnm⟩ : ∃ nm, asc k nl = some nm := by
                  cases hq : asc k nl with
                  | none => rw [hq] at hc; simp at hc
                  | some nm => exact ⟨nm, rfl⟩
                have hnn2 : nameOf (tns (s0.chs.take dn) s0.fx) k = some nm := (nameOf_some (hinj dn)).2 ((hnl2 k nm).1 hnm)
                rw [hnm, Option.getD_some]
                refine X.skip ?_
                refine X.seq ?_
                refine X.regionD (fun _ => False) 13 (by kernel_rfl) (by kernel_rfl) (fun w31 hk31 hz31 => ?_)
                refine X.dTake 0 rfl (by kernel_rfl) (by kernel_rfl) (by kernel_rfl) (X.dwN rfl) (fun w' hk' => X.move rfl) ?_
                refine X.dTake 1 rfl (by kernel_rfl) (by kernel_rfl) (by kernel_rfl) (X.dwN rfl) (fun w' hk' => X.nilCk rfl) ?_
                refine X.dTake 2 rfl (by kernel_rfl) (by kernel_rfl) (by kernel_rfl) (X.dwN rfl) (fun w' hk' => X.fldB (j := 1) Tryz.underlying71 rfl rfl Tryz.sizeOf66 rfl) ?_
                refine X.dTake 3 rfl (by kernel_rfl) (by kernel_rfl) (by kernel_rfl) (X.dwN rfl) (fun w' hk' => X.load1B Tryz.isAgg66 ((hO.B.ext hx30 (by first | (intro hh; first | exact nn1 hh | exact nn2 hh | exact nn3 hh | exact nn4 hh | exact nn5 hh | exact nn6 hh | exact nn7 hh | exact nn8 hh | exact nn9 hh | exact nna hh | exact nnb hh | exact nnc hh | (rcases hh with hh | hh <;> first | exact nn1 hh | exact nn2 hh | exact nn3 hh | exact nn4 hh | exact nn5 hh | exact nn6 hh | exact nn7 hh | exact nn8 hh | exact nn9 hh | exact nna hh | exact nnb hh | exact nnc hh | omega) | omega) | (intro hh; have hh : _ = _ := hh; omega) | (intros; (try simp only [] at *); omega))).keep (hk31.trans hk')) rfl rfl) ?_
                refine X.dTake 4 rfl (by kernel_rfl) (by kernel_rfl) (by kernel_rfl) (X.dwN rfl) (fun w' hk' => X.move rfl) ?_
                refine X.dTake 5 rfl (by kernel_rfl) (by kernel_rfl) (by kernel_rfl) (X.dwN rfl) (fun w' hk' => X.nilCk rfl) ?_
                refine X.dTake 6 rfl (by kernel_rfl) (by kernel_rfl) (by kernel_rfl) (X.dwN rfl) (fun w' hk' => X.fldB (j := 2) Tryz.underlying71 rfl rfl Tryz.sizeOf3 rfl) ?_
                refine X.dTake 7 rfl (by kernel_rfl) (by kernel_rfl) (by kernel_rfl) (X.dwN rfl) (fun w' hk' => X.load1B Tryz.isAgg3 ((hO.B.ext hx30 (by first | (intro hh; first | exact nn1 hh | exact nn2 hh | exact nn3 hh | exact nn4 hh | exact nn5 hh | exact nn6 hh | exact nn7 hh | exact nn8 hh | exact nn9 hh | exact nna hh | exact nnb hh | exact nnc hh | (rcases hh with hh | hh <;> first | exact nn1 hh | exact nn2 hh | exact nn3 hh | exact nn4 hh | exact nn5 hh | exact nn6 hh | exact nn7 hh | exact nn8 hh | exact nn9 hh | exact nna hh | exact nnb hh | exact nnc hh | omega) | omega) | (intro hh; have hh : _ = _ := hh; omega) | (intros; (try simp only [] at *); omega))).keep (hk31.trans hk')) rfl rfl) ?_
                refine X.dTake 8 rfl (by kernel_rfl) (by kernel_rfl) (by kernel_rfl) (X.dwN rfl) (fun w' hk' => X.move rfl) ?_
                refine X.dTake 9 rfl (by kernel_rfl) (by kernel_rfl) (by kernel_rfl) (X.dwN rfl) (fun w' hk' => X.move rfl) ?_
                refine X.dE (i := 10) (by kernel_rfl) rfl (X.dwN rfl) (X.callE (CloneB_c _ ((hRk.keep hk31).rd KB_flat).2 (by omega)) Tryz.call54 rfl rfl) (by rintro _ w32 ⟨A2c, c2c, rfl, hccc, hMcc, hk32⟩ _; exact hk32.mono (fun _ _ h => h.elim)) ?_
                rintro _ w32 ⟨A2c, c2c, rfl, hccc, hMcc, hk32⟩
                have hk32' := hk32.size
                refine X.dTake 11 rfl (by kernel_rfl) (by kernel_rfl) (by kernel_rfl) (X.dwN rfl) (fun w' hk' => X.buildB (vs := [(0, .slice Ak (sizeK sz (looseL s0 (s0.near.take i2)).2 (fat s0.fs k)) (sizeK sz (looseL s0 (s0.near.take i2)).2 (fat s0.fs k))), (1, .slice A2c (sizeK sz (looseL s0 (s0.near.take i2)).2 (fat s0.fs k)) c2c)]) (cs := #[.slice Ak (sizeK sz (looseL s0 (s0.near.take i2)).2 (fat s0.fs k)) (sizeK sz (looseL s0 (s0.near.take i2)).2 (fat s0.fs k)), .slice A2c (sizeK sz (looseL s0 (s0.near.take i2)).2 (fat s0.fs k)) c2c]) rfl (by kernel_rfl)) ?_
                refine X.dE (i := 12) (by kernel_rfl) rfl (X.dwN rfl) (X.boxE rfl rfl) (by rintro _ w33 ⟨rfl, hB33, hk33, hz33⟩ _; exact hk33.mono (fun _ _ h => h.elim)) ?_
                rintro _ w33 ⟨rfl, hB33, hk33, hz33⟩
                refine X.dE (i := 13) (by kernel_rfl) rfl (X.dwN rfl) (X.updateV (enc := fun x : Int => Value.int .i64 x) (venc := fun v : Value => v) (a := (o.1.length : Int)) (v := ptrV w32.heap.size) Tryz.underlying66 (keyInt Tryz.underlying3) ((((hO.F.ext hx30 (by first | (intro hh; first | exact nn1 hh | exact nn2 hh | exact nn3 hh | exact nn4 hh | exact nn5 hh | exact nn6 hh | exact nn7 hh | exact nn8 hh | exact nn9 hh | exact nna hh | exact nnb hh | exact nnc hh | (rcases hh with hh | hh <;> first | exact nn1 hh | exact nn2 hh | exact nn3 hh | exact nn4 hh | exact nn5 hh | exact nn6 hh | exact nn7 hh | exact nn8 hh | exact nn9 hh | exact nna hh | exact nnb hh | exact nnc hh | omega) | omega) | (intro hh; have hh : _ = _ := hh; omega) | (intros; (try simp only [] at *); omega))).keep hk31).keep hk32).keep hk33) rfl rfl rfl) (fun _ _ _ h => absurd h (by decide)) ?_
                rintro _ w34 ⟨hGf, hxf, hzf⟩
                refine X.dEnd (by kernel_rfl) ?_
                refine X.seq ?_
                refine X.regionD (fun _ => False) 9 (by kernel_rfl) (by kernel_rfl) (fun w35 hk35 hz35 => ?_)
                refine X.dTake 0 rfl (by kernel_rfl) (by kernel_rfl) (by kernel_rfl) (X.dwN rfl) (fun w' hk' => X.move rfl) ?_
                refine X.dTake 1 rfl (by kernel_rfl) (by kernel_rfl) (by kernel_rfl) (X.dwN rfl) (fun w' hk' => X.nilCk rfl) ?_
                refine X.dTake 2 rfl (by kernel_rfl) (by kernel_rfl) (by kernel_rfl) (X.dwN rfl) (fun w' hk' => X.fldB (j := 3) Tryz.underlying71 rfl rfl Tryz.sizeOf67 rfl) ?_
                refine X.dTake 3 rfl (by kernel_rfl) (by kernel_rfl) (by kernel_rfl) (X.dwN rfl) (fun w' hk' => X.load1B Tryz.isAgg67 ((((hO.B.ext hx30 (by first | (intro hh; first | exact nn1 hh | exact nn2 hh | exact nn3 hh | exact nn4 hh | exact nn5 hh | exact nn6 hh | exact nn7 hh | exact nn8 hh | exact nn9 hh | exact nna hh | exact nnb hh | exact nnc hh | (rcases hh with hh | hh <;> first | exact nn1 hh | exact nn2 hh | exact nn3 hh | exact nn4 hh | exact nn5 hh | exact nn6 hh | exact nn7 hh | exact nn8 hh | exact nn9 hh | exact nna hh | exact nnb hh | exact nnc hh | omega) | omega) | (intro hh; have hh : _ = _ := hh; omega) | (intros; (try simp only [] at *); omega))).keep ((hk31.trans hk32).trans hk33)).ext hxf (by first | (intro hh; first | exact nn1 hh | exact nn2 hh | exact nn3 hh | exact nn4 hh | exact nn5 hh | exact nn6 hh | exact nn7 hh | exact nn8 hh | exact nn9 hh | exact nna hh | exact nnb hh | exact nnc hh | (rcases hh with hh | hh <;> first | exact nn1 hh | exact nn2 hh | exact nn3 hh | exact nn4 hh | exact nn5 hh | exact nn6 hh | exact nn7 hh | exact nn8 hh | exact nn9 hh | exact nna hh | exact nnb hh | exact nnc hh | omega) | omega) | (intro hh; have hh : _ = _ := hh; omega) | (intros; (try simp only [] at *); omega))).keep (hk35.trans hk')) rfl rfl) ?_
                refine X.dTake 4 rfl (by kernel_rfl) (by kernel_rfl) (by kernel_rfl) (X.dwN rfl) (fun w' hk' => X.move (v := .string _) rfl) ?_
                refine X.dTake 5 rfl (by kernel_rfl) (by kernel_rfl) (by kernel_rfl) (X.dwN rfl) (fun w' hk' => X.move rfl) ?_
                refine X.dTake 6 rfl (by kernel_rfl) (by kernel_rfl) (by kernel_rfl) (X.dwN rfl) (fun w' hk' => X.nilCk rfl) ?_
                refine X.dTake 7 rfl (by kernel_rfl) (by kernel_rfl) (by kernel_rfl) (X.dwN rfl) (fun w' hk' => X.fldB (j := 2) Tryz.underlying71 rfl rfl Tryz.sizeOf3 rfl) ?_
                refine X.dTake 8 rfl (by kernel_rfl) (by kernel_rfl) (by kernel_rfl) (X.dwN rfl) (fun w' hk' => X.load1B Tryz.isAgg3 ((((hO.B.ext hx30 (by first | (intro hh; first | exact nn1 hh | exact nn2 hh | exact nn3 hh | exact nn4 hh | exact nn5 hh | exact nn6 hh | exact nn7 hh | exact nn8 hh | exact nn9 hh | exact nna hh | exact nnb hh | exact nnc hh | (rcases hh with hh | hh <;> first | exact nn1 hh | exact nn2 hh | exact nn3 hh | exact nn4 hh | exact nn5 hh | exact nn6 hh | exact nn7 hh | exact nn8 hh | exact nn9 hh | exact nna hh | exact nnb hh | exact nnc hh | omega) | omega) | (intro hh; have hh : _ = _ := hh; omega) | (intros; (try simp only [] at *); omega))).keep ((hk31.trans hk32).trans hk33)).ext hxf (by first | (intro hh; first | exact nn1 hh | exact nn2 hh | exact nn3 hh | exact nn4 hh | exact nn5 hh | exact nn6 hh | exact nn7 hh | exact nn8 hh | exact nn9 hh | exact nna hh | exact nnb hh | exact nnc hh | (rcases hh with hh | hh <;> first | exact nn1 hh | exact nn2 hh | exact nn3 hh | exact nn4 hh | exact nn5 hh | exact nn6 hh | exact nn7 hh | exact nn8 hh | exact nn9 hh | exact nna hh | exact nnb hh | exact nnc hh | omega) | omega) | (intro hh; have hh : _ = _ := hh; omega) | (intros; (try simp only [] at *); omega))).keep (hk35.trans hk')) rfl rfl) ?_
                refine X.dE (i := 9) (by kernel_rfl) rfl (X.dwN rfl) (X.updateV (enc := fun x : ByteArray => Value.string x) (venc := fun v : Int => Value.int .i64 v) (a := nm) (v := (o.1.length : Int)) Tryz.underlying67 (keyStr Tryz.underlying9) ((((((hO.G.ext hx30 (by first | (intro hh; first | exact nn1 hh | exact nn2 hh | exact nn3 hh | exact nn4 hh | exact nn5 hh | exact nn6 hh | exact nn7 hh | exact nn8 hh | exact nn9 hh | exact nna hh | exact nnb hh | exact nnc hh | (rcases hh with hh | hh <;> first | exact nn1 hh | exact nn2 hh | exact nn3 hh | exact nn4 hh | exact nn5 hh | exact nn6 hh | exact nn7 hh | exact nn8 hh | exact nn9 hh | exact nna hh | exact nnb hh | exact nnc hh | omega) | omega) | (intro hh; have hh : _ = _ := hh; omega) | (intros; (try simp only [] at *); omega))).keep hk31).keep hk32).keep hk33).ext hxf (by first | (intro hh; first | exact nn1 hh | exact nn2 hh | exact nn3 hh | exact nn4 hh | exact nn5 hh | exact nn6 hh | exact nn7 hh | exact nn8 hh | exact nn9 hh | exact nna hh | exact nnb hh | exact nnc hh | (rcases hh with hh | hh <;> first | exact nn1 hh | exact nn2 hh | exact nn3 hh | exact nn4 hh | exact nn5 hh | exact nn6 hh | exact nn7 hh | exact nn8 hh | exact nn9 hh | exact nna hh | exact nnb hh | exact nnc hh | omega) | omega) | (intro hh; have hh : _ = _ := hh; omega) | (intros; (try simp only [] at *); omega))).keep hk35) rfl rfl rfl) (fun _ _ _ h => absurd h (by decide)) ?_
                rintro _ w36 ⟨hGd, hxd, hzd⟩
                refine X.dEnd (by kernel_rfl) ?_
                refine X.region ?_
                refine X.opw X.wN rfl (X.move rfl) ?_
                refine X.opw X.wN rfl (X.nilCk rfl) ?_
                refine X.opw X.wN rfl (X.fldB (j := 2) Tryz.underlying71 rfl rfl Tryz.sizeOf3 rfl) ?_
                refine X.opw X.wN rfl (X.load1B Tryz.isAgg3 (((((hO.B.ext hx30 (by first | (intro hh; first | exact nn1 hh | exact nn2 hh | exact nn3 hh | exact nn4 hh | exact nn5 hh | exact nn6 hh | exact nn7 hh | exact nn8 hh | exact nn9 hh | exact nna hh | exact nnb hh | exact nnc hh | (rcases hh with hh | hh <;> first | exact nn1 hh | exact nn2 hh | exact nn3 hh | exact nn4 hh | exact nn5 hh | exact nn6 hh | exact nn7 hh | exact nn8 hh | exact nn9 hh | exact nna hh | exact nnb hh | exact nnc hh | omega) | omega) | (intro hh; have hh : _ = _ := hh; omega) | (intros; (try simp only [] at *); omega))).keep ((hk31.trans hk32).trans hk33)).ext hxf (by first | (intro hh; first | exact nn1 hh | exact nn2 hh | exact nn3 hh | exact nn4 hh | exact nn5 hh | exact nn6 hh | exact nn7 hh | exact nn8 hh | exact nn9 hh | exact nna hh | exact nnb hh | exact nnc hh | (rcases hh with hh | hh <;> first | exact nn1 hh | exact nn2 hh | exact nn3 hh | exact nn4 hh | exact nn5 hh | exact nn6 hh | exact nn7 hh | exact nn8 hh | exact nn9 hh | exact nna hh | exact nnb hh | exact nnc hh | omega) | omega) | (intro hh; have hh : _ = _ := hh; omega) | (intros; (try simp only [] at *); omega))).keep hk35).ext hxd (by first | (intro hh; first | exact nn1 hh | exact nn2 hh | exact nn3 hh | exact nn4 hh | exact nn5 hh | exact nn6 hh | exact nn7 hh | exact nn8 hh | exact nn9 hh | exact nna hh | exact nnb hh | exact nnc hh | (rcases hh with hh | hh <;> first | exact nn1 hh | exact nn2 hh | exact nn3 hh | exact nn4 hh | exact nn5 hh | exact nn6 hh | exact nn7 hh | exact nn8 hh | exact nn9 hh | exact nna hh | exact nnb hh | exact nnc hh | omega) | omega) | (intro hh; have hh : _ = _ := hh; omega) | (intros; (try simp only [] at *); omega))) rfl rfl) ?_
                refine X.opw X.wN rfl (X.add (c := ((o.1.length : Nat) : Int) + 1) rfl rfl (by show IntKind.i64.wrap ((o.1.length : Int) + 1) = _; exact X.w_i64 (by omega))) ?_
                refine X.opw X.wN rfl (X.nilCk rfl) ?_
                refine X.opw X.wN rfl (X.fldB (j := 2) Tryz.underlying71 rfl rfl Tryz.sizeOf3 rfl) ?_
                refine X.opE X.wN rfl (X.storeE Tryz.sizeOf3 (((((hO.B.ext hx30 (by first | (intro hh; first | exact nn1 hh | exact nn2 hh | exact nn3 hh | exact nn4 hh | exact nn5 hh | exact nn6 hh | exact nn7 hh | exact nn8 hh | exact nn9 hh | exact nna hh | exact nnb hh | exact nnc hh | (rcases hh with hh | hh <;> first | exact nn1 hh | exact nn2 hh | exact nn3 hh | exact nn4 hh | exact nn5 hh | exact nn6 hh | exact nn7 hh | exact nn8 hh | exact nn9 hh | exact nna hh | exact nnb hh | exact nnc hh | omega) | omega) | (intro hh; have hh : _ = _ := hh; omega) | (intros; (try simp only [] at *); omega))).keep ((hk31.trans hk32).trans hk33)).ext hxf (by first | (intro hh; first | exact nn1 hh | exact nn2 hh | exact nn3 hh | exact nn4 hh | exact nn5 hh | exact nn6 hh | exact nn7 hh | exact nn8 hh | exact nn9 hh | exact nna hh | exact nnb hh | exact nnc hh | (rcases hh with hh | hh <;> first | exact nn1 hh | exact nn2 hh | exact nn3 hh | exact nn4 hh | exact nn5 hh | exact nn6 hh | exact nn7 hh | exact nn8 hh | exact nn9 hh | exact nna hh | exact nnb hh | exact nnc hh | omega) | omega) | (intro hh; have hh : _ = _ := hh; omega) | (intros; (try simp only [] at *); omega))).keep hk35).ext hxd (by first | (intro hh; first | exact nn1 hh | exact nn2 hh | exact nn3 hh | exact nn4 hh | exact nn5 hh | exact nn6 hh | exact nn7 hh | exact nn8 hh | exact nn9 hh | exact nna hh | exact nnb hh | exact nnc hh | (rcases hh with hh | hh <;> first | exact nn1 hh | exact nn2 hh | exact nn3 hh | exact nn4 hh | exact nn5 hh | exact nn6 hh | exact nn7 hh | exact nn8 hh | exact nn9 hh | exact nna hh | exact nnb hh | exact nnc hh | omega) | omega) | (intro hh; have hh : _ = _ := hh; omega) | (intros; (try simp only [] at *); omega))) rfl rfl rfl rfl) ?_
                rintro _ w37 ⟨hB37, hx37, hz37⟩
                refine X.opsEnd ?_
                refine X.inBlock ?_
                refine X.region ?_
                refine X.opw X.wN rfl (X.add (c := ((i2 + 1 : Nat) : Int)) rfl rfl (by rw [X.w_i64 (by omega)]; omega)) ?_
                refine X.opw X.wN rfl (X.move (v := .int .i64 _) rfl) ?_
                refine X.opsEnd ?_
                have hX := (Ext.andThen (Ext.andThen (Ext.andThen (Ext.andThen (Ext.andThen (Ext.andThen (Ext.andThen (Ext.andThen (Ext.refl (fun q => co2 q ≤ 3) _) hx30 (by intro q h1 h2; first | exact (h2 : False).elim | (have h2 : q = _ := h2; subst h2; omega) | (rcases h2 with h2 | h2 <;> (subst h2; omega)))) hk31 (by intro q h1 h2; first | exact (h2 : False).elim | (have h2 : q = _ := h2; subst h2; omega) | (rcases h2 with h2 | h2 <;> (subst h2; omega)))) hk32 (by intro q h1 h2; first | exact (h2 : False).elim | (have h2 : q = _ := h2; subst h2; omega) | (rcases h2 with h2 | h2 <;> (subst h2; omega)))) hk33 (by intro q h1 h2; first | exact (h2 : False).elim | (have h2 : q = _ := h2; subst h2; omega) | (rcases h2 with h2 | h2 <;> (subst h2; omega)))) hxf (by intro q h1 h2; first | exact (h2 : False).elim | (have h2 : q = _ := h2; subst h2; omega) | (rcases h2 with h2 | h2 <;> (subst h2; omega)))) hk35 (by intro q h1 h2; first | exact (h2 : False).elim | (have h2 : q = _ := h2; subst h2; omega) | (rcases h2 with h2 | h2 <;> (subst h2; omega)))) hxd (by intro q h1 h2; first | exact (h2 : False).elim | (have h2 : q = _ := h2; subst h2; omega) | (rcases h2 with h2 | h2 <;> (subst h2; omega)))) hx37 (by intro q h1 h2; first | exact (h2 : False).elim | (have h2 : q = _ := h2; subst h2; omega) | (rcases h2 with h2 | h2 <;> (subst h2; omega))))
                have hF9 := (((hGf.keep hk35).ext hxd (by first | (intro hh; first | exact nn1 hh | exact nn2 hh | exact nn3 hh | exact nn4 hh | exact nn5 hh | exact nn6 hh | exact nn7 hh | exact nn8 hh | exact nn9 hh | exact nna hh | exact nnb hh | exact nnc hh | (rcases hh with hh | hh <;> first | exact nn1 hh | exact nn2 hh | exact nn3 hh | exact nn4 hh | exact nn5 hh | exact nn6 hh | exact nn7 hh | exact nn8 hh | exact nn9 hh | exact nna hh | exact nnb hh | exact nnc hh | omega) | omega) | (intro hh; have hh : _ = _ := hh; omega) | (intros; (try simp only [] at *); omega))).ext hx37 (by first | (intro hh; first | exact nn1 hh | exact nn2 hh | exact nn3 hh | exact nn4 hh | exact nn5 hh | exact nn6 hh | exact nn7 hh | exact nn8 hh | exact nn9 hh | exact nna hh | exact nnb hh | exact nnc hh | (rcases hh with hh | hh <;> first | exact nn1 hh | exact nn2 hh | exact nn3 hh | exact nn4 hh | exact nn5 hh | exact nn6 hh | exact nn7 hh | exact nn8 hh | exact nn9 hh | exact nna hh | exact nnb hh | exact nnc hh | omega) | omega) | (intro hh; have hh : _ = _ := hh; omega) | (intros; (try simp only [] at *); omega)))
                have hG9 := (hGd.ext hx37 (by first | (intro hh; first | exact nn1 hh | exact nn2 hh | exact nn3 hh | exact nn4 hh | exact nn5 hh | exact nn6 hh | exact nn7 hh | exact nn8 hh | exact nn9 hh | exact nna hh | exact nnb hh | exact nnc hh | (rcases hh with hh | hh <;> first | exact nn1 hh | exact nn2 hh | exact nn3 hh | exact nn4 hh | exact nn5 hh | exact nn6 hh | exact nn7 hh | exact nn8 hh | exact nn9 hh | exact nna hh | exact nnb hh | exact nnc hh | omega) | omega) | (intro hh; have hh : _ = _ := hh; omega) | (intros; (try simp only [] at *); omega)))
                have hR9 := (((((((hRk.keep hk31).keep hk32).keep hk33).ext hxf (by intros; omega) (by intro q g1 g2; (try simp only [] at g1); have g2 : q = _ := g2; omega)).keep hk35).ext hxd (by intros; omega) (by intro q g1 g2; (try simp only [] at g1); have g2 : q = _ := g2; omega)).ext hx37 (by intros; omega) (by intro q g1 g2; (try simp only [] at g1); have g2 : q = _ := g2; omega))
                have hM9 := (((((hMcc.keep hk33).ext hxf (by intros; omega) (by intro q g1 g2; (try simp only [] at g1); have g2 : q = _ := g2; omega)).keep hk35).ext hxd (by intros; omega) (by intro q g1 g2; (try simp only [] at g1); have g2 : q = _ := g2; omega)).ext hx37 (by intros; omega) (by intro q g1 g2; (try simp only [] at g1); have g2 : q = _ := g2; omega))
                obtain ⟨co3, hO3, hc3⟩ := hO.addF (f := ((keptB kp (looseL s0 (s0.near.take i2)).1 (s0.spots k) (fat s0.fs k) (sizeK sz (looseL s0 (s0.near.take i2)).2 (fat s0.fs k))), (keptB kp (looseL s0 (s0.near.take i2)).1 (s0.spots k) (fat s0.fs k) (sizeK sz (looseL s0 (s0.near.take i2)).2 (fat s0.fs k))))) (d' := put nm (o.1.length : Int) o.2) (p := w32.heap.size) (h1 := w31.heap.size) (h2 := w32.heap.size) (A1n := 0) hX hB37 hF9 hG9 (by omega) (by omega) (by omega) (by omega) ((((hB33.ext hxf (by first | (intro hh; first | exact nn1 hh | exact nn2 hh | exact nn3 hh | exact nn4 hh | exact nn5 hh | exact nn6 hh | exact nn7 hh | exact nn8 hh | exact nn9 hh | exact nna hh | exact nnb hh | exact nnc hh | (rcases hh with hh | hh <;> first | exact nn1 hh | exact nn2 hh | exact nn3 hh | exact nn4 hh | exact nn5 hh | exact nn6 hh | exact nn7 hh | exact nn8 hh | exact nn9 hh | exact nna hh | exact nnb hh | exact nnc hh | omega) | omega) | (intro hh; have hh : _ = _ := hh; omega) | (intros; (try simp only [] at *); omega))).keep hk35).ext hxd (by first | (intro hh; first | exact nn1 hh | exact nn2 hh | exact nn3 hh | exact nn4 hh | exact nn5 hh | exact nn6 hh | exact nn7 hh | exact nn8 hh | exact nn9 hh | exact nna hh | exact nnb hh | exact nnc hh | (rcases hh with hh | hh <;> first | exact nn1 hh | exact nn2 hh | exact nn3 hh | exact nn4 hh | exact nn5 hh | exact nn6 hh | exact nn7 hh | exact nn8 hh | exact nn9 hh | exact nna hh | exact nnb hh | exact nnc hh | omega) | omega) | (intro hh; have hh : _ = _ := hh; omega) | (intros; (try simp only [] at *); omega))).ext hx37 (by first | (intro hh; first | exact nn1 hh | exact nn2 hh | exact nn3 hh | exact nn4 hh | exact nn5 hh | exact nn6 hh | exact nn7 hh | exact nn8 hh | exact nn9 hh | exact nna hh | exact nnb hh | exact nnc hh | (rcases hh with hh | hh <;> first | exact nn1 hh | exact nn2 hh | exact nn3 hh | exact nn4 hh | exact nn5 hh | exact nn6 hh | exact nn7 hh | exact nn8 hh | exact nn9 hh | exact nna hh | exact nnb hh | exact nnc hh | omega) | omega) | (intro hh; have hh : _ = _ := hh; omega) | (intros; (try simp only [] at *); omega))) (hR9.mono (fun q _ g => ⟨by omega, by omega⟩)) (hM9.mono (fun q _ g => ⟨by omega, by omega⟩))
                refine hback (i2 + 1, (o.1 ++ [((keptB kp (looseL s0 (s0.near.take i2)).1 (s0.spots k) (fat s0.fs k) (sizeK sz (looseL s0 (s0.near.take i2)).2 (fat s0.fs k))), (keptB kp (looseL s0 (s0.near.take i2)).1 (s0.spots k) (fat s0.fs k) (sizeK sz (looseL s0 (s0.near.take i2)).2 (fat s0.fs k))))], put nm (o.1.length : Int) o.2)) _ _ ⟨rfl, rfl, rfl, rfl, rfl, rfl, rfl, rfl, trivial⟩ ⟨co3, pt2 ++ [w32.heap.size], by (dsimp only); omega, hO3, (fun q hq => if g : q < wm.heap.size then hco2 q (by rw [← hc3 q g]; exact hq) else (by omega)), (by rw [hc3 _ (by omega)]; exact hcn1), (by rw [hc3 _ (by omega)]; exact hcs1), (by rw [hc3 _ (by omega)]; exact hcz1), (fun q a1 a2 => by rw [hc3 _ (by omega)]; exact hcr q a1 a2), by (dsimp only); rw [hs1, hs2]; rw [← hlf9, drop_cons hxk, loseF, hnn2], (by rw [hs1]; exact (((((kBs.keep ((hk31.trans hk32).trans hk33)).ext hxf (by first | (intro hh; first | exact nn1 hh | exact nn2 hh | exact nn3 hh | exact nn4 hh | exact nn5 hh | exact nn6 hh | exact nn7 hh | exact nn8 hh | exact nn9 hh | exact nna hh | exact nnb hh | exact nnc hh | (rcases hh with hh | hh <;> first | exact nn1 hh | exact nn2 hh | exact nn3 hh | exact nn4 hh | exact nn5 hh | exact nn6 hh | exact nn7 hh | exact nn8 hh | exact nn9 hh | exact nna hh | exact nnb hh | exact nnc hh | omega) | omega) | (intro hh; have hh : _ = _ := hh; omega) | (intros; (try simp only [] at *); omega))).keep hk35).ext hxd (by first | (intro hh; first | exact nn1 hh | exact nn2 hh | exact nn3 hh | exact nn4 hh | exact nn5 hh | exact nn6 hh | exact nn7 hh | exact nn8 hh | exact nn9 hh | exact nna hh | exact nnb hh | exact nnc hh | (rcases hh with hh | hh <;> first | exact nn1 hh | exact nn2 hh | exact nn3 hh | exact nn4 hh | exact nn5 hh | exact nn6 hh | exact nn7 hh | exact nn8 hh | exact nn9 hh | exact nna hh | exact nnb hh | exact nnc hh | omega) | omega) | (intro hh; have hh : _ = _ := hh; omega) | (intros; (try simp only [] at *); omega))).ext hx37 (by first | (intro hh; first | exact nn1 hh | exact nn2 hh | exact nn3 hh | exact nn4 hh | exact nn5 hh | exact nn6 hh | exact nn7 hh | exact nn8 hh | exact nn9 hh | exact nna hh | exact nnb hh | exact nnc hh | (rcases hh with hh | hh <;> first | exact nn1 hh | exact nn2 hh | exact nn3 hh | exact nn4 hh | exact nn5 hh | exact nn6 hh | exact nn7 hh | exact nn8 hh | exact nn9 hh | exact nna hh | exact nnb hh | exact nnc hh | omega) | omega) | (intro hh; have hh : _ = _ := hh; omega) | (intros; (try simp only [] at *); omega)))), (by rw [hs2]; exact (((((kBz.keep ((hk31.trans hk32).trans hk33)).ext hxf (by first | (intro hh; first | exact nn1 hh | exact nn2 hh | exact nn3 hh | exact nn4 hh | exact nn5 hh | exact nn6 hh | exact nn7 hh | exact nn8 hh | exact nn9 hh | exact nna hh | exact nnb hh | exact nnc hh | (rcases hh with hh | hh <;> first | exact nn1 hh | exact nn2 hh | exact nn3 hh | exact nn4 hh | exact nn5 hh | exact nn6 hh | exact nn7 hh | exact nn8 hh | exact nn9 hh | exact nna hh | exact nnb hh | exact nnc hh | omega) | omega) | (intro hh; have hh : _ = _ := hh; omega) | (intros; (try simp only [] at *); omega))).keep hk35).ext hxd (by first | (intro hh; first | exact nn1 hh | exact nn2 hh | exact nn3 hh | exact nn4 hh | exact nn5 hh | exact nn6 hh | exact nn7 hh | exact nn8 hh | exact nn9 hh | exact nna hh | exact nnb hh | exact nnc hh | (rcases hh with hh | hh <;> first | exact nn1 hh | exact nn2 hh | exact nn3 hh | exact nn4 hh | exact nn5 hh | exact nn6 hh | exact nn7 hh | exact nn8 hh | exact nn9 hh | exact nna hh | exact nnb hh | exact nnc hh | omega) | omega) | (intro hh; have hh : _ = _ := hh; omega) | (intros; (try simp only [] at *); omega))).ext hx37 (by first | (intro hh; first | exact nn1 hh | exact nn2 hh | exact nn3 hh | exact nn4 hh | exact nn5 hh | exact nn6 hh | exact nn7 hh | exact nn8 hh | exact nn9 hh | exact nna hh | exact nnb hh | exact nnc hh | (rcases hh with hh | hh <;> first | exact nn1 hh | exact nn2 hh | exact nn3 hh | exact nn4 hh | exact nn5 hh | exact nn6 hh | exact nn7 hh | exact nn8 hh | exact nn9 hh | exact nna hh | exact nnb hh | exact nnc hh | omega) | omega) | (intro hh; have hh : _ = _ := hh; omega) | (intros; (try simp only [] at *); omega)))), ((((((hGm.ext hx30 (by first | (intro hh; first | exact nn1 hh | exact nn2 hh | exact nn3 hh | exact nn4 hh | exact nn5 hh | exact nn6 hh | exact nn7 hh | exact nn8 hh | exact nn9 hh | exact nna hh | exact nnb hh | exact nnc hh | (rcases hh with hh | hh <;> first | exact nn1 hh | exact nn2 hh | exact nn3 hh | exact nn4 hh | exact nn5 hh | exact nn6 hh | exact nn7 hh | exact nn8 hh | exact nn9 hh | exact nna hh | exact nnb hh | exact nnc hh | omega) | omega) | (intro hh; have hh : _ = _ := hh; omega) | (intros; (try simp only [] at *); omega))).keep ((hk31.trans hk32).trans hk33)).ext hxf (by first | (intro hh; first | exact nn1 hh | exact nn2 hh | exact nn3 hh | exact nn4 hh | exact nn5 hh | exact nn6 hh | exact nn7 hh | exact nn8 hh | exact nn9 hh | exact nna hh | exact nnb hh | exact nnc hh | (rcases hh with hh | hh <;> first | exact nn1 hh | exact nn2 hh | exact nn3 hh | exact nn4 hh | exact nn5 hh | exact nn6 hh | exact nn7 hh | exact nn8 hh | exact nn9 hh | exact nna hh | exact nnb hh | exact nnc hh | omega) | omega) | (intro hh; have hh : _ = _ := hh; omega) | (intros; (try simp only [] at *); omega))).keep hk35).ext hxd (by first | (intro hh; first | exact nn1 hh | exact nn2 hh | exact nn3 hh | exact nn4 hh | exact nn5 hh | exact nn6 hh | exact nn7 hh | exact nn8 hh | exact nn9 hh | exact nna hh | exact nnb hh | exact nnc hh | (rcases hh with hh | hh <;> first | exact nn1 hh | exact nn2 hh | exact nn3 hh | exact nn4 hh | exact nn5 hh | exact nn6 hh | exact nn7 hh | exact nn8 hh | exact nn9 hh | exact nna hh | exact nnb hh | exact nnc hh | omega) | omega) | (intro hh; have hh : _ = _ := hh; omega) | (intros; (try simp only [] at *); omega))).ext hx37 (by first | (intro hh; first | exact nn1 hh | exact nn2 hh | exact nn3 hh | exact nn4 hh | exact nn5 hh | exact nn6 hh | exact nn7 hh | exact nn8 hh | exact nn9 hh | exact nna hh | exact nnb hh | exact nnc hh | (rcases hh with hh | hh <;> first | exact nn1 hh | exact nn2 hh | exact nn3 hh | exact nn4 hh | exact nn5 hh | exact nn6 hh | exact nn7 hh | exact nn8 hh | exact nn9 hh | exact nna hh | exact nnb hh | exact nnc hh | omega) | omega) | (intro hh; have hh : _ = _ := hh; omega) | (intros; (try simp only [] at *); omega))), ((((((((hSn.ext hx30 (by intro q g1 g2 g3; have g4 := hcr q g1 g2; first | omega | (have g3 : q = _ := g3; subst g3; omega) | (rcases g3 with g3 | g3 <;> first | omega | (subst g3; omega)))).keep hk31).keep hk32).keep hk33).ext hxf (by intro q g1 g2 g3; have g4 := hcr q g1 g2; first | omega | (have g3 : q = _ := g3; subst g3; omega) | (rcases g3 with g3 | g3 <;> first | omega | (subst g3; omega)))).keep hk35).ext hxd (by intro q g1 g2 g3; have g4 := hcr q g1 g2; first | omega | (have g3 : q = _ := g3; subst g3; omega) | (rcases g3 with g3 | g3 <;> first | omega | (subst g3; omega)))).ext hx37 (by intro q g1 g2 g3; have g4 := hcr q g1 g2; first | omega | (have g3 : q = _ := g3; subst g3; omega) | (rcases g3 with g3 | g3 <;> first | omega | (subst g3; omega)))), by (dsimp only); rw [List.length_append]; simp; omega, (by omega), ((((((((hkm.step hx30 (by intros; (try simp only [] at *); omega)).trans hk31).trans hk32).trans hk33).step hxf (by intros; (try simp only [] at *); omega)).trans hk35).step hxd (by intros; (try simp only [] at *); omega)).step hx37 (by intros; (try simp only [] at *); omega))⟩ (by (dsimp only); omega)
            · refine X.opsEnd ?_
              refine X.seq ?_
              refine X.condF rfl ?_
              refine X.exit rfl ?_
              refine X.seq ?_
              refine X.region ?_
              refine X.opw X.wN rfl (X.move rfl) ?_
              refine X.opw X.wN rfl (X.move rfl) ?_
              refine X.opw X.wN rfl (X.nilCk rfl) ?_
              refine X.opw X.wN rfl (X.fldB (j := 3) Tryz.underlying71 rfl rfl Tryz.sizeOf67 rfl) ?_
              refine X.opw X.wN rfl (X.load1B Tryz.isAgg67 hO.B rfl rfl) ?_
              refine X.opE X.wN rfl (X.callE (mapClone_c _ hO.G) Tryz.call51 rfl rfl) ?_
              rintro _ w38 ⟨rfl, gX, hk38, hz38⟩
              refine X.opw X.wN rfl (X.nilCk rfl) ?_
              refine X.opw X.wN rfl (X.fldB (j := 4) Tryz.underlying71 rfl rfl Tryz.sizeOf67 rfl) ?_
              refine X.opE X.wN rfl (X.storeE Tryz.sizeOf67 (hO.B.keep hk38) rfl rfl rfl rfl) ?_
              rintro _ w39 ⟨hB39, hx39, hz39⟩
              refine X.opsEnd ?_
              refine X.seq ?_
              refine X.region ?_
              refine X.opw X.wN rfl (X.move rfl) ?_
              refine X.opw X.wN rfl (X.assign rfl) ?_
              refine X.opw X.wN rfl (X.assign rfl) ?_
              refine X.opsEnd ?_
              refine X.ret2 (v2 := (.int .i64 _)) Tryz.func15 Tryz.results15 rfl rfl ?_
              have hfin : o = s0.left dn kp sz := by
                have : s0.near.drop i2 = [] := List.drop_of_length_le (by omega)
                rw [this] at hlf9; exact hlf9
              have hX := (Ext.andThen (Ext.andThen (Ext.refl (fun q => co2 q = 1) _) hk38 (by intro q h1 h2; first | exact (h2 : False).elim | (have h2 : q = _ := h2; subst h2; exact o1))) hx39 (by intro q h1 h2; first | exact (h2 : False).elim | (have h2 : q = _ := h2; subst h2; exact o1)))
              have hXs := hX.size
              obtain ⟨co3, hcol⟩ : ∃ co3, co3 = rec' co2 wm.heap.size w39.heap.size 4 := ⟨_, rfl⟩
              have hold : ∀ q, q < wm.heap.size → co3 q = co2 q := fun q hq => by rw [hcol]; exact rec_old hq
              have P := hO.part (col' := co3) (fun v => v = 1) hX hold (fun q hq ht => ht)
              refine ⟨((hkm.trans hk38).step hx39 (by intros; (try simp only [] at *); omega)), .inr ⟨by omega, bo, co3, rfl, ?_, fun q hq => ?_⟩⟩
              · rw [Int.toNat_natCast, DS.lose, ← hfin]
                exact ⟨bfo, bdo, wm.heap.size, blo, none, 0, 0, pt2, hB39, P.F (by decide), P.G (by decide), (gX.ext hx39 (by first | (intro hh; first | exact nn1 hh | exact nn2 hh | exact nn3 hh | exact nn4 hh | exact nn5 hh | exact nn6 hh | exact nn7 hh | exact nn8 hh | exact nn9 hh | exact nna hh | exact nnb hh | exact nnc hh | (rcases hh with hh | hh <;> first | exact nn1 hh | exact nn2 hh | exact nn3 hh | exact nn4 hh | exact nn5 hh | exact nn6 hh | exact nn7 hh | exact nn8 hh | exact nn9 hh | exact nna hh | exact nnb hh | exact nnc hh | omega) | omega) | (intro hh; have hh : _ = _ := hh; omega) | (intros; (try simp only [] at *); omega))), P.L (by decide), P.M (by decide), P.cb, P.cf, P.cd, (by rw [hcol]; exact rec_new (by omega) (by omega)), P.cl, (fun q hq => by rw [hcol] at hq; exact rec_lt hO.lt hXs hq), P.pl, fun k q f a1 a2 => P.fl k q f a1 a2 (fun j _ _ => by omega)⟩
              · by_cases g : q < wm.heap.size
                · have := hco2 q (by rw [← hold q g]; exact hq)
                  omega
                · omega
        · have hx12' := hx12.size
          obtain ⟨q, hq, rfl⟩ : ∃ q : ByteArray × Int, q ∈ (tns (s0.chs.take dn) s0.fx) ∧ p12 = (q.1, Value.int .i64 q.2) := by
            obtain ⟨q, hq, e⟩ := List.mem_map.1 hp12
            exact ⟨q, hq, e.symm⟩
          dsimp only at hpn12 hI12
          refine X.opw X.wN rfl (X.extr rfl rfl) ?_
          refine X.opsEnd ?_
          refine X.seq ?_
          refine X.condT rfl ?_
          refine X.skip ?_
          refine X.block ?_
          refine X.seq ?_
          refine X.region ?_
          refine X.opw X.wN rfl (X.entryE hI12 hp12 rfl) ?_
          refine X.opw X.wN rfl (X.extr rfl rfl) ?_
          refine X.opw X.wN rfl (X.extr rfl rfl) ?_
          refine X.opw X.wN rfl (X.assign (v := .string _) rfl) ?_
          refine X.opw X.wN rfl (X.assign (v := .int .i64 _) rfl) ?_
          refine X.opsEnd ?_
          refine X.region ?_
          refine X.opw X.wN rfl (X.move rfl) ?_
          refine X.opw X.wN rfl (X.move (v := .int .i64 _) rfl) ?_
          refine X.opw X.wN rfl (X.move (v := .string _) rfl) ?_
          refine X.opE X.wN rfl (X.updateV (enc := fun x : Int => Value.int .i64 x) (venc := fun v : ByteArray => Value.string v) (a := q.2) (v := q.1) Tryz.underlying100 (keyInt Tryz.underlying3) (hG1.ext hx12 (by first | (intro hh; first | exact nn1 hh | exact nn2 hh | exact nn3 hh | exact nn4 hh | exact nn5 hh | exact nn6 hh | exact nn7 hh | exact nn8 hh | exact nn9 hh | exact nna hh | exact nnb hh | exact nnc hh | (rcases hh with hh | hh <;> first | exact nn1 hh | exact nn2 hh | exact nn3 hh | exact nn4 hh | exact nn5 hh | exact nn6 hh | exact nn7 hh | exact nn8 hh | exact nn9 hh | exact nna hh | exact nnb hh | exact nnc hh | omega) | omega) | (intro hh; have hh : _ = _ := hh; omega) | (intros; (try simp only [] at *); omega))) rfl rfl rfl) ?_
          rintro _ w40 ⟨hGn, hxn, hzn⟩
          refine X.opsEnd ?_
          refine X.inBlock ?_
          refine hback (q.1 :: ds, put q.2 q.1 nl) _ _ ⟨rfl, rfl, rfl, rfl, rfl, trivial⟩ ⟨(hI12.ext hxn (by first | (intro hh; first | exact nn1 hh | exact nn2 hh | exact nn3 hh | exact nn4 hh | exact nn5 hh | exact nn6 hh | exact nn7 hh | exact nn8 hh | exact nn9 hh | exact nna hh | exact nnb hh | exact nnc hh | (rcases hh with hh | hh <;> first | exact nn1 hh | exact nn2 hh | exact nn3 hh | exact nn4 hh | exact nn5 hh | exact nn6 hh | exact nn7 hh | exact nn8 hh | exact nn9 hh | exact nna hh | exact nnb hh | exact nnc hh | omega) | omega) | (intro hh; have hh : _ = _ := hh; omega) | (intros; (try simp only [] at *); omega)) (by first | (intro hh; first | exact nn1 hh | exact nn2 hh | exact nn3 hh | exact nn4 hh | exact nn5 hh | exact nn6 hh | exact nn7 hh | exact nn8 hh | exact nn9 hh | exact nna hh | exact nnb hh | exact nnc hh | (rcases hh with hh | hh <;> first | exact nn1 hh | exact nn2 hh | exact nn3 hh | exact nn4 hh | exact nn5 hh | exact nn6 hh | exact nn7 hh | exact nn8 hh | exact nn9 hh | exact nna hh | exact nnb hh | exact nnc hh | omega) | omega) | (intro hh; have hh : _ = _ := hh; omega) | (intros; (try simp only [] at *); omega))), hGn, (fun k nm => by
              (dsimp only)
              rw [asc_put]
              by_cases e : k = q.2
              · rw [if_pos e]
                constructor
                · intro e2; injection e2 with e2; subst e2 e; exact ⟨List.mem_cons_self, hq⟩
                · rintro ⟨_, h2⟩; have h3 := (nameOf_some (hinj dn)).2 h2; have h4 := (nameOf_some (hinj dn)).2 hq; rw [e, h4] at h3; exact h3
              · rw [if_neg e, hnl]
                constructor
                · rintro ⟨h1, h2⟩; exact ⟨List.mem_cons_of_mem _ h1, h2⟩
                · rintro ⟨h1, h2⟩
                  rcases List.mem_cons.1 h1 with e2 | h1
                  · exfalso; apply e; have h3 := asc_mem hdn h2; have h4 := asc_mem hdn hq; rw [e2, h4] at h3; injection h3 with h3; exact h3.symm
                  · exact ⟨h1, h2⟩), List.nodup_cons.2 ⟨hpn12, hnd⟩, (fun a ha => (List.mem_cons.1 ha).elim (fun e => by rw [e]; exact List.mem_map.2 ⟨q, hq, rfl⟩) (hin a)), ((hBc1.ext hx12 (by first | (intro hh; first | exact nn1 hh | exact nn2 hh | exact nn3 hh | exact nn4 hh | exact nn5 hh | exact nn6 hh | exact nn7 hh | exact nn8 hh | exact nn9 hh | exact nna hh | exact nnb hh | exact nnc hh | (rcases hh with hh | hh <;> first | exact nn1 hh | exact nn2 hh | exact nn3 hh | exact nn4 hh | exact nn5 hh | exact nn6 hh | exact nn7 hh | exact nn8 hh | exact nn9 hh | exact nna hh | exact nnb hh | exact nnc hh | omega) | omega) | (intro hh; have hh : _ = _ := hh; omega) | (intros; (try simp only [] at *); omega))).ext hxn (by first | (intro hh; first | exact nn1 hh | exact nn2 hh | exact nn3 hh | exact nn4 hh | exact nn5 hh | exact nn6 hh | exact nn7 hh | exact nn8 hh | exact nn9 hh | exact nna hh | exact nnb hh | exact nnc hh | (rcases hh with hh | hh <;> first | exact nn1 hh | exact nn2 hh | exact nn3 hh | exact nn4 hh | exact nn5 hh | exact nn6 hh | exact nn7 hh | exact nn8 hh | exact nn9 hh | exact nna hh | exact nnb hh | exact nnc hh | omega) | omega) | (intro hh; have hh : _ = _ := hh; omega) | (intros; (try simp only [] at *); omega))), ((hO1.ext hx12 (by intro q g1 g2; have := hO1l q g1; have g2 : q = _ := g2; have := hOl q; omega)).ext hxn (by intro q g1 g2; have := hO1l q g1; have g2 : q = _ := g2; have := hOl q; omega)), ((hkn.step hx12 (by intros; (try simp only [] at *); omega)).step hxn (by intros; (try simp only [] at *); omega))⟩ (by have := nodup_len (ks := (tns (s0.chs.take dn) s0.fx).map (·.1)) (List.nodup_cons.2 ⟨hpn12, hnd⟩) (fun a ha => (List.mem_cons.1 ha).elim (fun e => by rw [e]; exact List.mem_map.2 ⟨q, hq, rfl⟩) (hin a)); simp only [List.length_map, List.length_cons] at this ⊢; omega)
end Go.Proofs.YtcdebnppbnmmgaaGreat

namespace Go.Proofs.YtcdebnppbnmmgaaGreat
open Go Go.Proofs.YtcdebnppbnmmgaaGreat.X
set_option linter.unusedVariables false
set_option linter.unusedSimpArgs false
theorem put_mem {κ ν : Type} [DecidableEq κ] {x : κ} {v : ν} : ∀ {m : List (κ × ν)} {p : κ × ν}, p ∈ put x v m → p = (x, v) ∨ p ∈ m
  | [], p, h => by simp [put] at h; exact .inl h
  | (a, u) :: m, p, h => by
    rw [put] at h
    split at h
    · rename_i e
      rcases List.mem_cons.1 h with h | h
      · exact .inl (by rw [h, e])
      · exact .inr (List.mem_cons_of_mem _ h)
    · rcases List.mem_cons.1 h with h | h
      · exact .inr (by rw [h]; exact List.mem_cons_self)
      · exact (put_mem h).imp id (List.mem_cons_of_mem _)
theorem put_len {κ ν : Type} [DecidableEq κ] (x : κ) (v : ν) : ∀ m : List (κ × ν), (put x v m).length ≤ m.length + 1
  | [] => by simp [put]
  | (a, u) :: m => by
    rw [put]
    split
    · simp
    · have := put_len x v m; simp; omega
theorem del_len {κ ν : Type} [DecidableEq κ] {x : κ} : ∀ {m : List (κ × ν)}, x ∈ m.map (·.1) → (del x m).length + 1 = m.length
  | [], h => by simp at h
  | (a, u) :: m, h => by
    rw [del]
    split
    · simp
    · rename_i e
      have : x ∈ m.map (·.1) := by
        simp only [List.map_cons, List.mem_cons] at h
        exact h.resolve_left e
      have := del_len this
      simp; omega
theorem put_inj {κ ν : Type} [DecidableEq κ] {x : κ} {v : ν} : ∀ {m : List (κ × ν)}, (m.map (·.2)).Nodup → v ∉ m.map (·.2) → ((put x v m).map (·.2)).Nodup
  | [], _, _ => by simp [put]
  | (a, u) :: m, hn, hv => by
    simp only [List.map_cons, List.nodup_cons, List.mem_cons, not_or] at hn hv
    rw [put]
    split
    · simp only [List.map_cons, List.nodup_cons]; exact ⟨hv.2, hn.2⟩
    · simp only [List.map_cons, List.nodup_cons]
      refine ⟨fun h => ?_, put_inj hn.2 hv.2⟩
      obtain ⟨p, hp, e⟩ := List.mem_map.1 h
      rcases put_mem hp with rfl | hp
      · exact hv.1 e
      · exact hn.1 (by rw [← e]; exact List.mem_map.2 ⟨p, hp, rfl⟩)
theorem del_val {d : DIR} {nm : ByteArray} {k : Int} (hk : (d.map (·.1)).Nodup) (hn : (d.map (·.2)).Nodup) (h : asc nm d = some k) : k ∉ (del nm d).map (·.2) := by
  intro hm
  obtain ⟨p, hp, e⟩ := List.mem_map.1 hm
  rw [del_eq hk] at hp
  obtain ⟨h1, h2⟩ := List.mem_filter.1 hp
  have h3 : p.1 ≠ nm := by simpa using h2
  have e1 := (nameOf_some hn (k := k) (nm := p.1)).2 (by rw [← e]; exact h1)
  have e2 := (nameOf_some hn (k := k) (nm := nm)).2 (asc_some h)
  rw [e1] at e2
  injection e2 with e2
  exact h3 e2
theorem trn_eq (c : CHG) (d : DIR) : trn c d = if c.2.1 = ⟨#[]⟩ then (if c.1 = ⟨#[]⟩ then d else del c.1 d) else put c.2.1 c.2.2 (if c.1 = ⟨#[]⟩ then d else del c.1 d) := rfl
theorem trn_ne {c : CHG} {d : DIR} (h : ∀ p, p ∈ d → p.1 ≠ ⟨#[]⟩) : ∀ p, p ∈ trn c d → p.1 ≠ ⟨#[]⟩ := by
  have h1 : ∀ p, p ∈ (if c.1 = ⟨#[]⟩ then d else del c.1 d) → p.1 ≠ ⟨#[]⟩ := fun p hp => by
    split at hp
    · exact h p hp
    · exact h p ((del_sub d).subset hp)
  intro p hp
  rw [trn_eq] at hp
  split at hp
  · exact h1 p hp
  · rename_i e
    rcases put_mem hp with rfl | hp
    · exact e
    · exact h1 p hp
theorem tns_ne : ∀ {cs : List CHG} {d : DIR}, (∀ p, p ∈ d → p.1 ≠ ⟨#[]⟩) → ∀ p, p ∈ tns cs d → p.1 ≠ ⟨#[]⟩
  | [], _, h => h
  | c :: cs, d, h => tns_ne (cs := cs) (trn_ne (c := c) h)
/-- Names and files that may be. -/
def DirOk (n : Nat) (d : DIR) : Prop := (∀ p, p ∈ d → 0 ≤ p.2 ∧ p.2 < (n : Int) ∧ p.1.size ≤ 64) ∧ (d.map (·.1)).Nodup
theorem DirOk.trn {n : Nat} {d : DIR} (h : DirOk n d) {c : CHG} (hc : c.2.1 ≠ ⟨#[]⟩ → 0 ≤ c.2.2 ∧ c.2.2 < (n : Int) ∧ c.2.1.size ≤ 64) : DirOk n (trn c d) := by
  have h1 : DirOk n (if c.1 = ⟨#[]⟩ then d else del c.1 d) := by
    split
    · exact h
    · exact ⟨fun p hp => h.1 p ((del_sub d).subset hp), del_nodup h.2⟩
  rw [trn_eq]
  split
  · exact h1
  · rename_i e
    refine ⟨fun p hp => ?_, put_nodup h1.2⟩
    rcases put_mem hp with rfl | hp
    · exact hc e
    · exact h1.1 p hp
theorem DirOk.tns {n : Nat} : ∀ {cs : List CHG} {d : DIR}, DirOk n d → (∀ c, c ∈ cs → c.2.1 ≠ ⟨#[]⟩ → 0 ≤ c.2.2 ∧ c.2.2 < (n : Int) ∧ c.2.1.size ≤ 64) → DirOk n (tns cs d)
  | [], _, h, _ => h
  | c :: cs, d, h, hc => DirOk.tns (cs := cs) (h.trn (hc c List.mem_cons_self)) fun x hx => hc x (List.mem_cons_of_mem _ hx)
theorem tns_app (cs : List CHG) (c : CHG) (d : DIR) : tns (cs ++ [c]) d = trn c (tns cs d) := by rw [tns, List.foldl_append]; rfl
/-- What may be, whatever was done to it. -/
structure DS.Inv (s : DS) : Prop where
  ok : s.Ok
  tie : s.dir = tns s.chs s.fx
  inj : ∀ i, ((tns (s.chs.take i) s.fx).map (·.2)).Nodup
  fewi : ∀ i, (tns (s.chs.take i) s.fx).length ≤ 256
  nef : ∀ p, p ∈ s.fx → p.1 ≠ ⟨#[]⟩
theorem Inv_new {rm : Int} (h : 1 ≤ rm ∧ rm ≤ 1048576) : (DS.mk0 rm [] [] []).Inv :=
  ⟨⟨h, (fun _ h => by cases h), (fun _ h => by cases h), (fun _ h => by cases h), (fun _ h => by cases h), (fun _ h => by cases h), Nat.zero_le _, Nat.zero_le _, (show (0 : Int) ≤ 0 ∧ (0 : Int) ≤ 1048576 by decide), List.nodup_nil, List.nodup_nil⟩, rfl, fun i => by simp [DS.mk0, tns], fun i => by simp [DS.mk0, tns], fun _ h => by cases h⟩
theorem DS.Ok.did {s : DS} (h : s.Ok) (hd : ¬ s.down = true) : s.did.Ok := by
  refine ⟨h.rm, h.dir, h.fx, h.chs, h.chn, h.fs, h.few, h.fewx, ?_, h.nd, h.ndx⟩
  have h1 := h.lf
  simp only [DS.did]
  split
  · rename_i hf
    have : ¬ s.lf ≤ 0 := fun hl => hd (by rw [DS.down, hf]; simpa using hl)
    omega
  · exact h1
theorem DS.Inv.did {s : DS} (h : s.Inv) (hd : ¬ s.down = true) : s.did.Inv := ⟨h.ok.did hd, h.tie, h.inj, h.fewi, h.nef⟩
theorem DS.Inv.note {s : DS} (h : s.Inv) {c : CHG} (h1 : c.1 = ⟨#[]⟩ → 0 ≤ c.2.2 ∧ c.2.2 < (s.fs.length : Int)) (h2 : c.2.1 ≠ ⟨#[]⟩ → 0 ≤ c.2.2 ∧ c.2.2 < (s.fs.length : Int) ∧ c.2.1.size ≤ 64) (h3 : ((trn c s.dir).map (·.2)).Nodup) (h4 : (trn c s.dir).length ≤ 256) : (s.note c).Inv := by
  have hd : DirOk s.fs.length (trn c s.dir) := DirOk.trn ⟨fun p hp => h.ok.dir p hp, h.ok.nd⟩ h2
  have ht : trn c s.dir = tns (s.chs ++ [c]) s.fx := by rw [tns_app, ← h.tie]
  refine ⟨⟨h.ok.rm, hd.1, h.ok.fx, ?_, ?_, h.ok.fs, h4, h.ok.fewx, h.ok.lf, hd.2, h.ok.ndx⟩, ht, ?_, ?_, h.nef⟩
  · intro x hx
    rcases List.mem_append.1 hx with hx | hx
    · exact h.ok.chs x hx
    · rw [List.mem_singleton.1 hx]; exact h1
  · intro x hx
    rcases List.mem_append.1 hx with hx | hx
    · exact h.ok.chn x hx
    · rw [List.mem_singleton.1 hx]; exact h2
  · intro i
    show ((tns ((s.chs ++ [c]).take i) s.fx).map (·.2)).Nodup
    rcases Nat.lt_or_ge s.chs.length i with hi | hi
    · rw [List.take_of_length_le (by simp; omega), ← ht]; exact h3
    · rw [List.take_append_of_le_length hi]; exact h.inj i
  · intro i
    show (tns ((s.chs ++ [c]).take i) s.fx).length ≤ 256
    rcases Nat.lt_or_ge s.chs.length i with hi | hi
    · rw [List.take_of_length_le (by simp; omega), ← ht]; exact h4
    · rw [List.take_append_of_le_length hi]; exact h.fewi i
theorem DS.Inv.vals {s : DS} (h : s.Inv) : (s.dir.map (·.2)).Nodup := by
  have := h.inj s.chs.length
  rwa [List.take_length, ← h.tie] at this
theorem DS.Inv.ne {s : DS} (h : s.Inv) : ∀ p, p ∈ s.dir → p.1 ≠ ⟨#[]⟩ := by
  rw [h.tie]; exact tns_ne h.nef
theorem DS.Inv.create {s : DS} (h : s.Inv) (nm : ByteArray) : (s.create nm).2.Inv := by
  rw [DS.create]
  split
  · exact h
  · rename_i hd
    split
    · exact h
    · rename_i hr
      split
      · exact h
      · rename_i hth
        split
        · exact h
        · rename_i hf
          have h0 : ({ s with fs := s.fs ++ [([], [])] } : DS).Inv := by
            refine ⟨⟨h.ok.rm, fun p hp => ?_, fun p hp => ?_, fun c hc he => ?_, fun c hc he => ?_, fun f hf => ?_, h.ok.few, h.ok.fewx, h.ok.lf, h.ok.nd, h.ok.ndx⟩, h.tie, h.inj, h.fewi, h.nef⟩
            · have := h.ok.dir p hp; simp; omega
            · have := h.ok.fx p hp; simp; omega
            · have := h.ok.chs c hc he; simp; omega
            · have := h.ok.chn c hc he; simp; omega
            · rcases List.mem_append.1 hf with hf | hf
              · exact h.ok.fs f hf
              · rw [List.mem_singleton.1 hf]; exact ⟨Nat.zero_le _, Nat.zero_le _⟩
          have hrn : nm ≠ ⟨#[]⟩ ∧ nm.size ≤ 64 := by
            cases hq : rightN nm with
            | false => exact absurd hq hr
            | true => rw [rightN] at hq; simpa using hq
          have e1 : trn (⟨#[]⟩, nm, (s.fs.length : Int)) s.dir = put nm (s.fs.length : Int) s.dir := by rw [trn_eq, if_neg hrn.1, if_pos rfl]
          refine (h0.note (c := (⟨#[]⟩, nm, (s.fs.length : Int))) (fun _ => by simp; omega) (fun _ => by simp; exact ⟨by omega, hrn.2⟩) ?_ ?_).did (fun e => hd e)
          · show ((trn (⟨#[]⟩, nm, (s.fs.length : Int)) s.dir).map (·.2)).Nodup
            rw [e1]
            refine put_inj h.vals fun hm => ?_
            obtain ⟨p, hp, e⟩ := List.mem_map.1 hm
            have := h.ok.dir p hp; omega
          · show (trn (⟨#[]⟩, nm, (s.fs.length : Int)) s.dir).length ≤ 256
            rw [e1]
            have := put_len nm (s.fs.length : Int) s.dir
            omega
theorem DS.Inv.delete {s : DS} (h : s.Inv) (nm : ByteArray) : (s.delete nm).2.Inv := by
  rw [DS.delete]
  split
  · exact h
  · rename_i hd
    split
    · exact h
    · rename_i hn
      have hpos : 0 < s.fs.length := by
        cases ha : asc nm s.dir with
        | none => exact absurd ha hn
        | some k => have := h.ok.dir _ (asc_some ha); omega
      have hs : (trn (nm, ⟨#[]⟩, 0) s.dir).Sublist s.dir := by
        rw [trn_eq, if_pos rfl]
        split
        · exact List.Sublist.refl _
        · exact del_sub _
      refine (h.note (c := (nm, ⟨#[]⟩, 0)) (fun _ => by simp; exact hpos) (fun e => absurd rfl e) (h.vals.sublist (hs.map _)) ?_).did (fun e => hd e)
      exact Nat.le_trans hs.length_le h.ok.few
theorem DS.Inv.rename {s : DS} (h : s.Inv) (nm to : ByteArray) : (s.rename nm to).2.Inv := by
  rw [DS.rename]
  split
  · exact h
  · rename_i hd
    split
    · exact h
    · rename_i k hk
      split
      · exact h
      · rename_i hr
        have hrn : to ≠ ⟨#[]⟩ ∧ to.size ≤ 64 := by
          cases hq : rightN to with
          | false => exact absurd hq hr
          | true => rw [rightN] at hq; simpa using hq
        split
        · exact h.did hd
        · have hkr := h.ok.dir _ (asc_some hk)
          refine (h.note (c := (nm, to, k)) (fun _ => ⟨hkr.1, hkr.2.1⟩) (fun _ => ⟨hkr.1, hkr.2.1, hrn.2⟩) ?_ ?_).did (fun e => hd e)
          · rw [trn_eq, if_neg hrn.1, if_neg (h.ne _ (asc_some hk))]
            exact put_inj (h.vals.sublist ((del_sub _).map _)) (del_val h.ok.nd h.vals hk)
          · rw [trn_eq, if_neg hrn.1, if_neg (h.ne _ (asc_some hk))]
            have h1 := put_len to k (del nm s.dir)
            have h2 := del_len (m := s.dir) (x := nm) (List.mem_map.2 ⟨_, asc_some hk, rfl⟩)
            have h3 := h.ok.few
            show (put to k (del nm s.dir)).length ≤ 256
            omega
theorem DS.Inv.syncDir {s : DS} (h : s.Inv) : s.syncDir.2.Inv := by
  rw [DS.syncDir]
  split
  · exact h
  · rename_i hd
    have h0 : ({ s with fx := s.dir, chs := [] } : DS).Inv :=
      ⟨⟨h.ok.rm, h.ok.dir, h.ok.dir, (fun _ h => by cases h), (fun _ h => by cases h), h.ok.fs, h.ok.few, h.ok.few, h.ok.lf, h.ok.nd, h.ok.nd⟩, rfl, (fun i => by rw [List.take_nil]; exact h.vals), (fun i => by rw [List.take_nil]; exact h.ok.few), h.ne⟩
    exact h0.did (fun e => hd e)
theorem DS.Inv.files {s : DS} (h : s.Inv) {fs : List FILE} {ls : LS} (hl : fs.length = s.fs.length) (hf : ∀ f, f ∈ fs → f.1.length ≤ 1048576 ∧ f.2.length ≤ 1048576) : ({ s with fs := fs, ls := ls } : DS).Inv :=
  ⟨⟨h.ok.rm, by rw [hl]; exact h.ok.dir, by rw [hl]; exact h.ok.fx, by rw [hl]; exact h.ok.chs, by rw [hl]; exact h.ok.chn, hf, h.ok.few, h.ok.fewx, h.ok.lf, h.ok.nd, h.ok.ndx⟩, h.tie, h.inj, h.fewi, h.nef⟩
theorem set_files {fs : List FILE} {k : Nat} {g : FILE} (h : ∀ f, f ∈ fs → f.1.length ≤ 1048576 ∧ f.2.length ≤ 1048576) (hg : g.1.length ≤ 1048576 ∧ g.2.length ≤ 1048576) : ∀ f, f ∈ fs.set k g → f.1.length ≤ 1048576 ∧ f.2.length ≤ 1048576 := fun f hf => by
  rcases List.mem_or_eq_of_mem_set hf with hf | rfl
  · exact h f hf
  · exact hg
theorem DS.Ok.fatl {s : DS} (h : s.Ok) (k : Int) : (fat s.fs k).1.length ≤ 1048576 ∧ (fat s.fs k).2.length ≤ 1048576 := by
  rw [fat, List.getD_eq_getElem?_getD]
  cases hf : s.fs[k.toNat]? with
  | none => exact ⟨Nat.zero_le _, Nat.zero_le _⟩
  | some f => exact h.len hf
theorem DS.Inv.sync {s : DS} (h : s.Inv) (nm : ByteArray) : (s.sync nm).2.Inv := by
  rw [DS.sync]
  split
  · exact h
  · rename_i hd
    split
    · exact h
    · rename_i k hk
      have := h.ok.fatl k
      exact (h.files (by simp) (set_files (g := ((fat s.fs k).1, (fat s.fs k).1)) h.ok.fs ⟨this.1, this.1⟩)).did (fun e => hd e)
theorem DS.Inv.write {s : DS} (h : s.Inv) (nm : ByteArray) (a : Int) (x : List UInt8) : (s.write nm a x).2.Inv := by
  rw [DS.write]
  split
  · exact h
  · rename_i hd
    split
    · exact h
    · rename_i k hk
      split
      · exact h
      · rename_i h1
        split
        · exact h
        · rename_i h2
          split
          · exact h
          · have hl := h.ok.fatl k
            have hw := wrt_len (fat s.fs k).1 a.toNat x (by omega)
            exact (h.files (by simp) (set_files (g := (wrt (fat s.fs k).1 a.toNat x, (fat s.fs k).2)) h.ok.fs ⟨by (dsimp only); rw [hw]; omega, hl.2⟩)).did (fun e => hd e)
theorem DS.Inv.rot {s : DS} (h : s.Inv) (nm : ByteArray) (a : Int) (m : UInt8) : (s.rot nm a m).2.Inv := by
  rw [DS.rot]
  split
  · exact h
  · rename_i k hk
    split
    · exact h
    · have hl := h.ok.fatl k
      exact h.files (ls := s.ls) (by simp) (set_files h.ok.fs ⟨by rw [rotB_len]; exact hl.1, by rw [rotB_len]; exact hl.2⟩)
theorem DS.Inv.fuse {s : DS} (h : s.Inv) (n : Int) : (s.fuse n).2.Inv := by
  rw [DS.fuse]
  split
  · exact h
  · exact ⟨⟨h.ok.rm, h.ok.dir, h.ok.fx, h.ok.chs, h.ok.chn, h.ok.fs, h.ok.few, h.ok.fewx, ⟨by (dsimp only); omega, by (dsimp only); omega⟩, h.ok.nd, h.ok.ndx⟩, h.tie, h.inj, h.fewi, h.nef⟩
/-! ### behind a loss -/
/-- Files left, and their names: of the names of d. -/
structure LeftOk (d : DIR) (o : List FILE × DIR) : Prop where
  fs : ∀ f, f ∈ o.1 → f.1.length ≤ 1048576 ∧ f.2.length ≤ 1048576
  val : ∀ p, p ∈ o.2 → 0 ≤ p.2 ∧ p.2 < (o.1.length : Int)
  nd : (o.2.map (·.1)).Nodup
  inj : (o.2.map (·.2)).Nodup
  sub : ∀ k, k ∈ o.2.map (·.1) → k ∈ d.map (·.1)
theorem loseF_ok {s : DS} (h : s.Ok) (d : DIR) (kp sz : List Bool) : ∀ (l : List Int) (n m : Nat) (o : List FILE × DIR), LeftOk d o → LeftOk d (loseF s d kp sz l n m o)
  | [], _, _, o, ho => ho
  | k :: l, n, m, o, ho => by
    rw [loseF]
    refine loseF_ok h d kp sz l _ _ _ ?_
    split
    · exact ho
    · rename_i nm hnm
      have hb : (keptB kp n (s.spots k) (fat s.fs k) (sizeK sz m (fat s.fs k))).length ≤ 1048576 := by
        rw [keptB_len]
        have := h.fatl k
        rw [sizeK]; split <;> omega
      refine ⟨fun f hf => ?_, fun p hp => ?_, put_nodup ho.nd, put_inj ho.inj fun hm => ?_, fun x hx => ?_⟩
      · rcases List.mem_append.1 hf with hf | hf
        · exact ho.fs f hf
        · rw [List.mem_singleton.1 hf]; exact ⟨hb, hb⟩
      · have e : ((o.1 ++ [(keptB kp n (s.spots k) (fat s.fs k) (sizeK sz m (fat s.fs k)), keptB kp n (s.spots k) (fat s.fs k) (sizeK sz m (fat s.fs k)))] : List FILE).length : Int) = (o.1.length : Int) + 1 := by simp
        simp only [e]
        rcases put_mem hp with rfl | hp
        · (dsimp only); omega
        · have := ho.val p hp; omega
      · obtain ⟨p, hp, e⟩ := List.mem_map.1 hm
        have := ho.val p hp; omega
      · obtain ⟨p, hp, rfl⟩ := List.mem_map.1 hx
        rcases put_mem hp with rfl | hp
        · obtain ⟨q, hq, e⟩ := Option.map_eq_some_iff.1 hnm
          exact List.mem_map.2 ⟨q, List.mem_of_find?_eq_some hq, e⟩
        · exact ho.sub _ (List.mem_map.2 ⟨p, hp, rfl⟩)
theorem DS.Inv.lose {s : DS} (h : s.Inv) (dn : Nat) (kp sz : List Bool) : (s.lose dn kp sz).Inv := by
  have hd : DirOk s.fs.length (tns (s.chs.take dn) s.fx) := DirOk.tns ⟨fun p hp => h.ok.fx p hp, h.ok.ndx⟩ fun c hc he => h.ok.chn c (List.mem_of_mem_take hc) he
  have ho : LeftOk (tns (s.chs.take dn) s.fx) (s.left dn kp sz) := loseF_ok h.ok _ kp sz _ _ _ _ ⟨(fun _ h => by cases h), (fun _ h => by cases h), List.nodup_nil, List.nodup_nil, (fun _ h => by cases h)⟩
  have hne := tns_ne (cs := s.chs.take dn) h.nef
  have hsz : ∀ p, p ∈ (s.left dn kp sz).2 → p.1.size ≤ 64 ∧ p.1 ≠ ⟨#[]⟩ := fun p hp => by
    obtain ⟨q, hq, e⟩ := List.mem_map.1 (ho.sub p.1 (List.mem_map.2 ⟨p, hp, rfl⟩))
    rw [← e]
    exact ⟨(hd.1 q hq).2.2, hne q hq⟩
  have hfew : (s.left dn kp sz).2.length ≤ 256 := by
    have := nodup_len ho.nd ho.sub
    rw [List.length_map, List.length_map] at this
    have := h.fewi dn
    omega
  have hv : ∀ p, p ∈ (s.left dn kp sz).2 → 0 ≤ p.2 ∧ p.2 < ((s.left dn kp sz).1.length : Int) ∧ p.1.size ≤ 64 := fun p hp => ⟨(ho.val p hp).1, (ho.val p hp).2, (hsz p hp).1⟩
  exact ⟨⟨h.ok.rm, hv, hv, (fun _ h => by cases h), (fun _ h => by cases h), ho.fs, hfew, hfew, (show (0 : Int) ≤ 0 ∧ (0 : Int) ≤ 1048576 by decide), ho.nd, ho.nd⟩, rfl, (fun i => by show ((tns (([] : List CHG).take i) _).map (·.2)).Nodup; rw [List.take_nil]; exact ho.inj), (fun i => by show (tns (([] : List CHG).take i) _).length ≤ 256; rw [List.take_nil]; exact hfew), fun p hp => (hsz p hp).2⟩
theorem loseR_c {col : Nat → Nat} {w : World} {b : Nat} {s : DS} {lo hi q1 r1 q2 r2 : Nat} {Aq1 Aq2 : Option Addr} {kp sz : List Bool} (h : DkR col w b s) (hi' : s.Inv) (dir : Int) (hsz : s.size ≤ 50000) (hdir : -9223372036854775808 ≤ dir ∧ dir ≤ 9223372036854775807) (hS1 : Sl KBo lo hi w Aq1 q1 kp) (hS2 : Sl KBo lo hi w Aq2 q2 sz) (hhi : hi ≤ w.heap.size) :
    Ret Tryz.prog 15 #[ptrV b, .agg #[.int .i64 dir, .slice Aq1 q1 r1, .slice Aq2 q2 r2]] w fun r w' => Keep w w' ∧ ((dir < 0 ∨ (s.chs.length : Int) < dir) ∧ r = .tuple #[.pointer none, .int .i64 5] ∨ ¬ (dir < 0 ∨ (s.chs.length : Int) < dir) ∧ ∃ bo co, r = .tuple #[ptrV bo, .int .i64 0] ∧ DkR co w' bo (s.lose dir.toNat kp sz) ∧ ∀ q, co q ≠ 0 → w.heap.size ≤ q) :=
  let ⟨_, _, _, _, _, _, _, _, h⟩ := h; Lose_c dir w h hi'.ok hsz hdir hS1 hS2 hhi hi'.inj
end Go.Proofs.YtcdebnppbnmmgaaGreat

namespace Go.Proofs.YtcdebnppbnmmgaaGreat
open Go Go.Proofs.YtcdebnppbnmmgaaGreat.X
set_option linter.unusedVariables false
set_option linter.unusedSimpArgs false
theorem rbl_eq : ∀ (x y : List UInt8), Op.bytesLess x y = decide (x < y)
  | [], [] => by simp [Op.bytesLess]
  | _ :: _, [] => by simp [Op.bytesLess]
  | [], _ :: _ => by simp [Op.bytesLess]
  | a :: x, b :: y => by
    have h : (a :: x < b :: y) ↔ (a < b ∨ a = b ∧ x < y) := List.cons_lt_cons_iff
    rw [Op.bytesLess, rbl_eq x y, show decide (a :: x < b :: y) = decide (a < b ∨ a = b ∧ x < y) from decide_eq_decide.2 h, Bool.decide_or, Bool.decide_and]; rfl
theorem sless_lt (a b : ByteArray) : sless a b = decide (a.data.toList < b.data.toList) := rbl_eq _ _
theorem sl_irr (a : ByteArray) : sless a a = false := by rw [sless_lt]; exact decide_eq_false (List.lt_irrefl _)
theorem sl_trans {a b c : ByteArray} (h1 : sless a b = true) (h2 : sless b c = true) : sless a c = true := by
  rw [sless_lt] at *
  exact decide_eq_true (List.lt_trans (of_decide_eq_true h1) (of_decide_eq_true h2))
theorem sl_tri {a b : ByteArray} (h1 : sless a b = false) (h2 : a ≠ b) : sless b a = true := by
  rw [sless_lt] at *
  have h3 : ¬ a.data.toList < b.data.toList := of_decide_eq_false h1
  refine decide_eq_true ?_
  rcases Classical.em (b.data.toList < a.data.toList) with h | h
  · exact h
  · exfalso
    have e : a.data.toList = b.data.toList := List.le_antisymm (List.not_lt.1 h) (List.not_lt.1 h3)
    apply h2
    cases a with | mk a => cases b with | mk b => exact congrArg _ (Array.toList_inj.1 e)
def Srtd (l : DIR) : Prop := l.Pairwise fun p q => sless p.1 q.1 = true
theorem Srtd.nd {l : DIR} (h : Srtd l) : (l.map (·.1)).Nodup := by
  rw [List.Nodup, List.pairwise_map]
  exact h.imp fun {p q} hpq e => by rw [e, sl_irr] at hpq; exact absurd hpq (by decide)
theorem Srtd.rwo {l : DIR} (h : Srtd l) (nm : ByteArray) : Srtd (rwo nm l) := h.sublist List.filter_sublist
theorem asc_rwo (nm x : ByteArray) : ∀ l : DIR, asc x (rwo nm l) = if x = nm then none else asc x l
  | [] => by simp [rwo, asc]
  | (a, u) :: l => by
    have ih := asc_rwo nm x l
    by_cases ha : a = nm
    · rw [rwo, List.filter_cons_of_neg (by simpa using ha), ← rwo, ih, asc]
      by_cases hx : x = nm
      · rw [if_pos hx, if_pos hx]
      · rw [if_neg hx, if_neg hx, if_neg (by rw [ha]; exact hx)]
    · rw [rwo, List.filter_cons_of_pos (by simpa using ha), ← rwo, asc, ih, asc]
      by_cases hx : x = nm
      · rw [if_pos hx, if_pos hx, if_neg (by rw [hx]; exact fun e => ha e.symm)]
      · rw [if_neg hx, if_neg hx]
theorem asc_ins (e : ByteArray × Int) (x : ByteArray) : ∀ l : DIR, e.1 ∉ l.map (·.1) → asc x (rins e l) = if x = e.1 then some e.2 else asc x l
  | [], _ => by simp [rins, asc]
  | (a, u) :: l, h => by
    have ha : e.1 ≠ a := fun q => h (by rw [q]; exact List.mem_cons_self)
    have ih := asc_ins e x l (fun q => h (List.mem_cons_of_mem _ q))
    by_cases hs : sless a e.1 = true
    · have e1 : rins e ((a, u) :: l) = (a, u) :: rins e l := by simp [rins, hs]
      rw [e1, asc, ih, asc]
      by_cases hx : x = e.1
      · rw [if_pos hx, if_pos hx, if_neg (by rw [hx]; exact ha)]
      · rw [if_neg hx, if_neg hx]
    · have e1 : rins e ((a, u) :: l) = e :: (a, u) :: l := by simp [rins, hs]
      rw [e1]; rfl
theorem Srtd.ins {e : ByteArray × Int} : ∀ {l : DIR}, Srtd l → e.1 ∉ l.map (·.1) → Srtd (rins e l)
  | [], _, _ => by simp [rins, Srtd]
  | (a, u) :: l, h, hn => by
    have ha : a ≠ e.1 := fun q => hn (by rw [← q]; exact List.mem_cons_self)
    obtain ⟨h1, h2⟩ := List.pairwise_cons.1 h
    by_cases hs : sless a e.1 = true
    · have e1 : rins e ((a, u) :: l) = (a, u) :: rins e l := by simp [rins, hs]
      rw [e1]
      refine List.pairwise_cons.2 ⟨fun q hq => ?_, Srtd.ins h2 (fun q => hn (List.mem_cons_of_mem _ q))⟩
      have hq' : q = e ∨ q ∈ l := by
        rcases List.mem_append.1 hq with hq | hq
        · rcases List.mem_append.1 hq with hq | hq
          · exact .inr ((List.takeWhile_sublist _).subset hq)
          · exact .inl (List.mem_singleton.1 hq)
        · exact .inr ((List.dropWhile_sublist _).subset hq)
      rcases hq' with rfl | hq'
      · exact hs
      · exact h1 q hq'
    · have e1 : rins e ((a, u) :: l) = e :: (a, u) :: l := by simp [rins, hs]
      rw [e1]
      have hea : sless e.1 a = true := sl_tri (by simpa using hs) ha
      refine List.pairwise_cons.2 ⟨fun q hq => ?_, h⟩
      rcases List.mem_cons.1 hq with rfl | hq
      · exact hea
      · exact sl_trans hea (h1 q hq)
theorem rwo_out (nm : ByteArray) (l : DIR) : nm ∉ (rwo nm l).map (·.1) := fun h => by
  obtain ⟨p, hp, e⟩ := List.mem_map.1 h
  have := (List.mem_filter.1 hp).2
  simp at this
  exact this e
/-- The same directory, in order. -/
def DirT (d e : DIR) : Prop := (∀ x, asc x e = asc x d) ∧ Srtd e
theorem DirT.nil : DirT [] [] := ⟨fun _ => rfl, List.Pairwise.nil⟩
theorem DirT.del {d e : DIR} (h : DirT d e) (hd : (d.map (·.1)).Nodup) (nm : ByteArray) : DirT (del nm d) (rwo nm e) := ⟨fun x => by rw [asc_rwo, asc_del hd, h.1], h.2.rwo nm⟩
theorem DirT.put {d e : DIR} (h : DirT d e) (nm : ByteArray) (k : Int) : DirT (put nm k d) (rwith (nm, k) e) :=
  ⟨fun x => by rw [rwith, asc_ins _ _ _ (rwo_out nm e), asc_rwo, asc_put, h.1]; by_cases hx : x = nm <;> simp [hx], (h.2.rwo nm).ins (rwo_out nm e)⟩
theorem DirT.trn {d e : DIR} (h : DirT d e) (hd : (d.map (·.1)).Nodup) (c : CHG) : DirT (trn c d) (rapply c e) := by
  have h1 : DirT (if c.1 = ⟨#[]⟩ then d else X.del c.1 d) (if c.1 = ⟨#[]⟩ then e else Go.Proofs.YtcdebnppbnmmgaaGreat.rwo c.1 e) := by
    split
    · exact h
    · exact h.del hd c.1
  rw [trn_eq, rapply]
  simp only
  split
  · exact h1
  · exact h1.put _ _
end Go.Proofs.YtcdebnppbnmmgaaGreat

namespace Go.Proofs.YtcdebnppbnmmgaaGreat
open Go Go.Proofs.YtcdebnppbnmmgaaGreat.X
set_option linter.unusedVariables false
set_option linter.unusedSimpArgs false
abbrev Inc (l : List Int) : Prop := l.Pairwise (· < ·)
theorem inc_ext : ∀ {a b : List Int}, Inc a → Inc b → (∀ x, x ∈ a ↔ x ∈ b) → a = b
  | [], [], _, _, _ => rfl
  | [], y :: b, _, _, h => by have := (h y).2 List.mem_cons_self; cases this
  | x :: a, [], _, _, h => by have := (h x).1 List.mem_cons_self; cases this
  | x :: a, y :: b, ha, hb, h => by
    obtain ⟨a1, a2⟩ := List.pairwise_cons.1 ha
    obtain ⟨b1, b2⟩ := List.pairwise_cons.1 hb
    have hxy : x = y := by
      rcases List.mem_cons.1 ((h x).1 List.mem_cons_self) with e | e
      · exact e
      · rcases List.mem_cons.1 ((h y).2 List.mem_cons_self) with e' | e'
        · exact e'.symm
        · have := b1 x e; have := a1 y e'; omega
    subst hxy
    congr 1
    refine inc_ext a2 b2 fun z => ⟨fun hz => ?_, fun hz => ?_⟩
    · have := a1 z hz
      rcases List.mem_cons.1 ((h z).1 (List.mem_cons_of_mem _ hz)) with e | e
      · omega
      · exact e
    · have := b1 z hz
      rcases List.mem_cons.1 ((h z).2 (List.mem_cons_of_mem _ hz)) with e | e
      · omega
      · exact e
theorem lput_has (k : Int) : ∀ l : List Int, k ∈ lput k l := fun l => by
  rw [lput]
  split
  · rename_i h
    exact (List.dropWhile_sublist _).subset (List.mem_of_mem_head? h)
  · exact List.mem_append_left _ (List.mem_append_right _ List.mem_cons_self)
theorem lput_old {k x : Int} {l : List Int} (h : x ∈ l) : x ∈ lput k l := by
  rw [lput]
  split
  · exact h
  · rw [← List.takeWhile_append_dropWhile (p := fun x : Int => decide (x < k)) (l := l)] at h
    rcases List.mem_append.1 h with h | h
    · exact List.mem_append_left _ (List.mem_append_left _ h)
    · exact List.mem_append_right _ h
theorem lput_iff {k x : Int} {l : List Int} : x ∈ lput k l ↔ x = k ∨ x ∈ l := ⟨lput_mem, fun h => h.elim (fun e => by rw [e]; exact lput_has k l) lput_old⟩
theorem lput_cons_lt {k a : Int} {l : List Int} (h : a < k) : lput k (a :: l) = a :: lput k l := by
  rw [lput, lput]
  have h1 : (a :: l).dropWhile (fun x => decide (x < k)) = l.dropWhile (fun x => decide (x < k)) := by simp [h]
  have h2 : (a :: l).takeWhile (fun x => decide (x < k)) = a :: l.takeWhile (fun x => decide (x < k)) := by simp [h]
  rw [h1, h2]
  split <;> simp
theorem lput_inc {k : Int} : ∀ {l : List Int}, Inc l → Inc (lput k l)
  | [], _ => by simp [lput, Inc]
  | a :: l, h => by
    obtain ⟨h1, h2⟩ := List.pairwise_cons.1 h
    by_cases ha : a < k
    · rw [lput_cons_lt ha]
      refine List.pairwise_cons.2 ⟨fun x hx => ?_, lput_inc h2⟩
      rcases lput_mem hx with e | e
      · rw [e]; exact ha
      · exact h1 x e
    · rw [lput]
      have e1 : (a :: l).dropWhile (fun x => decide (x < k)) = a :: l := by simp [ha]
      have e2 : (a :: l).takeWhile (fun x => decide (x < k)) = [] := by simp [ha]
      rw [e1, e2]
      split
      · exact h
      · rename_i hh
        have hak : a ≠ k := fun e => hh (by rw [e]; rfl)
        refine List.pairwise_cons.2 ⟨fun x hx => ?_, h⟩
        rcases List.mem_cons.1 hx with e | e
        · omega
        · have := h1 x e; omega
theorem nfold_inc : ∀ {vs l : List Int}, Inc l → Inc (nfold l vs)
  | [], _, h => h
  | v :: vs, l, h => nfold_inc (vs := vs) (lput_inc h)
theorem nfold_iff {x : Int} : ∀ {vs l : List Int}, x ∈ nfold l vs ↔ x ∈ l ∨ x ∈ vs
  | [], l => by simp [nfold]
  | v :: vs, l => by
    have ih := nfold_iff (x := x) (vs := vs) (l := lput v l)
    rw [show nfold l (v :: vs) = nfold (lput v l) vs from rfl, ih, lput_iff, List.mem_cons]
    constructor
    · rintro ((h | h) | h)
      · exact .inr (.inl h)
      · exact .inl h
      · exact .inr (.inr h)
    · rintro (h | h | h)
      · exact .inl (.inr h)
      · exact .inl (.inl h)
      · exact .inr h
end Go.Proofs.YtcdebnppbnmmgaaGreat

namespace Go.Proofs.YtcdebnppbnmmgaaGreat
open Go Go.Proofs.YtcdebnppbnmmgaaGreat.X
set_option linter.unusedVariables false
set_option linter.unusedSimpArgs false
theorem same_vals {d e : DIR} (h : DirT d e) (hd : (d.map (·.1)).Nodup) (k : Int) : k ∈ e.map (·.2) ↔ k ∈ d.map (·.2) := by
  constructor
  · intro hk
    obtain ⟨p, hp, rfl⟩ := List.mem_map.1 hk
    have := asc_mem h.2.nd (x := p.1) (u := p.2) hp
    rw [h.1] at this
    exact List.mem_map.2 ⟨_, asc_some this, rfl⟩
  · intro hk
    obtain ⟨p, hp, rfl⟩ := List.mem_map.1 hk
    have := asc_mem hd (x := p.1) (u := p.2) hp
    rw [← h.1] at this
    exact List.mem_map.2 ⟨_, asc_some this, rfl⟩
theorem near_tie {s : DS} {t : RS} (hf : DirT s.fx t.fx) (hn : (s.fx.map (·.1)).Nodup) (hc : t.chs = s.chs) : t.near = s.near := by
  refine inc_ext (nfold_inc (nfold_inc List.Pairwise.nil)) (nrs_inc _) fun x => ?_
  rw [RS.near, nfold_iff, nfold_iff, DS.near, nrs_mem, List.mem_append, same_vals hf hn, hc]
  constructor
  · rintro ((h | h) | h)
    · cases h
    · exact .inl h
    · exact .inr h
  · rintro (h | h)
    · exact .inl (.inr h)
    · exact .inr h
/-- The loose sectors of a file. -/
structure Lo (l : List Int) (k : Int) (ls : LS) (n : Nat) : Prop where
  inc : Inc l
  mem : ∀ i, i ∈ l ↔ (asc (k, i) ls).getD false = true
  rng : ∀ i, i ∈ l → 0 ≤ i ∧ i < (rsec n : Int)
theorem Lo.spots {l : List Int} {k : Int} {ls : LS} {n : Nat} (h : Lo l k ls n) : l = spotL ls k (rsec n) := by
  refine inc_ext h.inc ?_ fun x => ?_
  · rw [spotL, Inc, List.pairwise_map]
    exact (List.Pairwise.sublist List.filter_sublist List.pairwise_lt_range).imp fun h => by omega
  · rw [spotL, List.mem_map]
    constructor
    · intro hx
      obtain ⟨h1, h2⟩ := h.rng x hx
      refine ⟨x.toNat, List.mem_filter.2 ⟨List.mem_range.2 (by omega), ?_⟩, by omega⟩
      have := (h.mem x).1 hx
      rw [show ((x.toNat : Nat) : Int) = x by omega]
      exact this
    · rintro ⟨j, hj, rfl⟩
      exact (h.mem _).2 (List.mem_filter.1 hj).2
theorem Lo.more {l : List Int} {k : Int} {ls : LS} {n n' : Nat} (h : Lo l k ls n) (hn : n ≤ n') : Lo l k ls n' := ⟨h.inc, h.mem, fun i hi => by have := h.rng i hi; rw [rsec] at *; omega⟩
theorem Lo.put {l : List Int} {k : Int} {ls : LS} {n s : Nat} (h : Lo l k ls n) (hs : s < rsec n) : Lo (lput (s : Int) l) k (X.put (k, (s : Int)) true ls) n := by
  refine ⟨lput_inc h.inc, fun i => ?_, fun i hi => ?_⟩
  · rw [lput_iff, asc_put, h.mem]
    by_cases hi : i = (s : Int)
    · simp [hi]
    · have : ¬ ((k, i) = (k, (s : Int))) := fun e => hi (by injection e)
      simp [hi, this]
  · rcases lput_mem hi with e | e
    · omega
    · exact h.rng i e
theorem Lo.mark {k : Int} {n : Nat} : ∀ (c s : Nat) {l : List Int} {ls : LS}, Lo l k ls n → s + c ≤ rsec n → Lo (rmark s c l) k (markL k s c ls) n
  | 0, _, _, _, h, _ => h
  | c + 1, s, l, ls, h, hs => Lo.mark c (s + 1) (h.put (s := s) (by omega)) (by omega)
theorem markL_asc {k k' i : Int} (hk : k' ≠ k) : ∀ (c s : Nat) (ls : LS), asc (k', i) (markL k s c ls) = asc (k', i) ls
  | 0, _, _ => rfl
  | c + 1, s, ls => by
    rw [markL, markL_asc hk c, asc_put, if_neg (fun e => hk (by injection e))]
theorem Lo.other {l : List Int} {k k' : Int} {ls : LS} {n : Nat} (h : Lo l k' ls n) (hk : k' ≠ k) (c s : Nat) : Lo l k' (markL k s c ls) n := ⟨h.inc, fun i => by rw [markL_asc hk]; exact h.mem i, h.rng⟩
theorem filt_asc (k : Int) (x : Int × Int) : ∀ ls : LS, asc x (ls.filter fun p => decide (p.1.1 ≠ k)) = if x.1 = k then none else asc x ls
  | [] => by simp [asc]
  | (a, u) :: ls => by
    have ih := filt_asc k x ls
    by_cases ha : a.1 = k
    · rw [List.filter_cons_of_neg (by simpa using ha), ih, asc]
      by_cases hx : x.1 = k
      · rw [if_pos hx, if_pos hx]
      · rw [if_neg hx, if_neg hx, if_neg (fun e => hx (by rw [e]; exact ha))]
    · rw [List.filter_cons_of_pos (by simpa using ha), asc, ih, asc]
      by_cases hx : x.1 = k
      · rw [if_pos hx, if_pos hx, if_neg (fun e => ha (by rw [← e]; exact hx))]
      · rw [if_neg hx, if_neg hx]
theorem Lo.synced (k : Int) (ls : LS) (n : Nat) : Lo [] k (ls.filter fun p => decide (p.1.1 ≠ k)) n := ⟨List.Pairwise.nil, fun i => by rw [filt_asc, if_pos rfl]; simp, fun i h => by cases h⟩
theorem Lo.kept {l : List Int} {k k' : Int} {ls : LS} {n : Nat} (h : Lo l k' ls n) (hk : k' ≠ k) : Lo l k' (ls.filter fun p => decide (p.1.1 ≠ k)) n := ⟨h.inc, fun i => by rw [filt_asc, if_neg hk]; exact h.mem i, h.rng⟩
end Go.Proofs.YtcdebnppbnmmgaaGreat

namespace Go.Proofs.YtcdebnppbnmmgaaGreat
open Go Go.Proofs.YtcdebnppbnmmgaaGreat.X
set_option linter.unusedVariables false
set_option linter.unusedSimpArgs false
structure Tie (s : DS) (t : RS) : Prop where
  rm : t.rm = s.rm
  has : t.has = s.fu
  left : t.left = s.lf
  chs : t.chs = s.chs
  len : t.fs.length = s.fs.length
  fs : ∀ (k : Nat) f g, s.fs[k]? = some f → t.fs[k]? = some g → g.1 = f.1 ∧ g.2.1 = f.2 ∧ Lo g.2.2 (k : Int) s.ls f.1.length
  dir : DirT s.dir t.dir
  fx : DirT s.fx t.fx
  out : ∀ p, p ∈ s.ls → p.1.1 < (s.fs.length : Int)
section
variable {s : DS} {t : RS}
theorem Tie.down (h : Tie s t) (hok : s.Ok) : t.down = s.down := by
  have := hok.lf
  rw [RS.down, DS.down, h.has, h.left, show decide (s.lf = 0) = decide (s.lf ≤ 0) from decide_eq_decide.2 (by omega)]
theorem Tie.find_none (h : Tie s t) {nm : ByteArray} (ha : asc nm s.dir = none) : rfind nm t.dir = -1 := by rw [rfind, h.dir.1, ha]; rfl
theorem Tie.find_some (h : Tie s t) {nm : ByteArray} {k : Int} (ha : asc nm s.dir = some k) : rfind nm t.dir = k := by rw [rfind, h.dir.1, ha]; rfl
theorem isNm_eq (nm : ByteArray) : isNm nm = rightN nm := by
  rw [isNm, rightN]
  refine decide_eq_decide.2 ⟨fun h => ⟨fun e => ?_, h.2⟩, fun h => ⟨?_, h.2⟩⟩
  · rw [e] at h; exact absurd h.1 (by decide)
  · refine Nat.pos_of_ne_zero fun e => h.1 ?_
    cases nm with | mk d =>
    have : d.size = 0 := e
    exact congrArg _ (Array.eq_empty_of_size_eq_zero this)
theorem keys_perm {d e : DIR} (h : DirT d e) (hd : (d.map (·.1)).Nodup) : (e.map (·.1)).Perm (d.map (·.1)) :=
  (List.perm_ext_iff_of_nodup h.2.nd hd).2 fun x => by
    constructor
    · intro hx
      refine Classical.byContradiction fun hn => ?_
      have h1 : asc x d = none := asc_none.2 fun p hp e => hn (List.mem_map.2 ⟨p, hp, e⟩)
      rw [← h.1] at h1
      obtain ⟨p, hp, e⟩ := List.mem_map.1 hx
      exact asc_none.1 h1 p hp e
    · intro hx
      refine Classical.byContradiction fun hn => ?_
      have h1 : asc x e = none := asc_none.2 fun p hp e => hn (List.mem_map.2 ⟨p, hp, e⟩)
      rw [h.1] at h1
      obtain ⟨p, hp, e⟩ := List.mem_map.1 hx
      exact asc_none.1 h1 p hp e
theorem Tie.dlen (h : Tie s t) (hok : s.Ok) : t.dir.length = s.dir.length := by
  have := (keys_perm h.dir hok.nd).length_eq
  rwa [List.length_map, List.length_map] at this
theorem Tie.flen (h : Tie s t) (k : Int) : (rfat t k).1 = (fat s.fs k).1 ∧ (rfat t k).2.1 = (fat s.fs k).2 := by
  rw [rfat, Go.Proofs.YtcdebnppbnmmgaaGreat.fat, List.getD_eq_getElem?_getD, List.getD_eq_getElem?_getD]
  by_cases hk : k.toNat < s.fs.length
  · obtain ⟨f, hf⟩ : ∃ f, s.fs[k.toNat]? = some f := ⟨_, List.getElem?_eq_getElem hk⟩
    obtain ⟨g, hg⟩ : ∃ g, t.fs[k.toNat]? = some g := ⟨_, List.getElem?_eq_getElem (by rw [h.len]; exact hk)⟩
    rw [hf, hg]
    obtain ⟨h1, h2, _⟩ := h.fs _ f g hf hg
    exact ⟨h1, h2⟩
  · rw [List.getElem?_eq_none (show s.fs.length ≤ k.toNat by omega), List.getElem?_eq_none (show t.fs.length ≤ k.toNat by rw [h.len]; omega)]; exact ⟨rfl, rfl⟩
theorem sum_perm {a b : List Nat} (h : a.Perm b) : a.sum = b.sum := h.sum_nat
theorem Tie.used (h : Tie s t) (hok : s.Ok) : t.used = s.used := by
  have e : ∀ l : DIR, (∀ p, p ∈ l → asc p.1 t.dir = some p.2) → rcost t l = ((l.map (·.1)).map (cost (Go.Proofs.YtcdebnppbnmmgaaGreat.flen s.fs) s.dir)).sum := by
    intro l hl
    rw [rcost, List.map_map]
    congr 1
    refine List.map_congr_left fun p hp => ?_
    have h1 := hl p hp
    rw [h.dir.1] at h1
    show rsec (rfat t p.2).1.length = cost (Go.Proofs.YtcdebnppbnmmgaaGreat.flen s.fs) s.dir p.1
    rw [cost, h1, (h.flen p.2).1]; rfl
  rw [RS.used, e t.dir (fun p hp => asc_mem h.dir.2.nd hp), DS.used, costs]
  exact sum_perm ((keys_perm h.dir hok.nd).map _)
end
end Go.Proofs.YtcdebnppbnmmgaaGreat

namespace Go.Proofs.YtcdebnppbnmmgaaGreat
open Go Go.Proofs.YtcdebnppbnmmgaaGreat.X
set_option linter.unusedVariables false
set_option linter.unusedSimpArgs false
def Both (a : Int × DS) (b : Int × RS) : Prop := b.1 = a.1 ∧ Tie a.2 b.2
section
variable {s : DS} {t : RS}
theorem Tie.did (h : Tie s t) : Tie s.did t.did := ⟨h.rm, h.has, by rw [RS.did, DS.did]; simp only [h.has, h.left], h.chs, h.len, h.fs, h.dir, h.fx, h.out⟩
theorem Tie.note (h : Tie s t) (hn : (s.dir.map (·.1)).Nodup) (c : CHG) : Tie (s.note c) (t.note c) := ⟨h.rm, h.has, h.left, by rw [RS.note, DS.note]; simp only [h.chs], h.len, h.fs, h.dir.trn hn c, h.fx, h.out⟩
theorem Tie.fuse (h : Tie s t) (n : Int) : Both (s.fuse n) (t.fuse n) := by
  rw [DS.fuse, RS.fuse]
  split
  · exact ⟨rfl, h⟩
  · exact ⟨rfl, h.rm, rfl, rfl, h.chs, h.len, h.fs, h.dir, h.fx, h.out⟩
theorem Tie.syncDir (h : Tie s t) (hok : s.Ok) : Both s.syncDir t.syncDir := by
  rw [DS.syncDir, RS.syncDir, h.down hok]
  split
  · exact ⟨rfl, h⟩
  · exact ⟨rfl, Tie.did ⟨h.rm, h.has, h.left, rfl, h.len, h.fs, h.dir, h.dir, h.out⟩⟩
theorem Tie.delete (h : Tie s t) (hok : s.Ok) (nm : ByteArray) : Both (s.delete nm) (t.delete nm) := by
  rw [DS.delete, RS.delete, h.down hok]
  split
  · exact ⟨rfl, h⟩
  · cases ha : asc nm s.dir with
    | none => rw [if_pos rfl, h.find_none ha, if_pos (by decide)]; exact ⟨rfl, h⟩
    | some k =>
      have hk := (hok.dir _ (asc_some ha)).1
      have hk : 0 ≤ k := hk
      rw [if_neg (by simp), h.find_some ha, if_neg (by omega)]; exact ⟨rfl, (h.note hok.nd _).did⟩
theorem Tie.rename (h : Tie s t) (hok : s.Ok) (nm to : ByteArray) : Both (s.rename nm to) (t.rename nm to) := by
  rw [DS.rename, RS.rename, h.down hok]
  split
  · exact ⟨rfl, h⟩
  · cases ha : asc nm s.dir with
    | none => rw [h.find_none ha, if_pos (by decide)]; exact ⟨rfl, h⟩
    | some k =>
      have hk := (hok.dir _ (asc_some ha)).1
      have hk : 0 ≤ k := hk
      rw [h.find_some ha, if_neg (by omega), isNm_eq]
      simp only
      split
      · exact ⟨rfl, h⟩
      · refine ⟨rfl, Tie.did ?_⟩
        split
        · exact h
        · exact h.note hok.nd _
theorem Tie.create (h : Tie s t) (hok : s.Ok) (nm : ByteArray) : Both (s.create nm) (t.create nm) := by
  rw [DS.create, RS.create, h.down hok, isNm_eq, h.dlen hok]
  split
  · exact ⟨rfl, h⟩
  · split
    · exact ⟨rfl, h⟩
    · cases ha : asc nm s.dir with
      | some k =>
        have hk := (hok.dir _ (asc_some ha)).1
        have hk : 0 ≤ k := hk
        rw [if_pos (show (some k).isSome = true from rfl), h.find_some ha, if_pos hk]; exact ⟨rfl, h⟩
      | none =>
        rw [if_neg (show ¬ (none : Option Int).isSome = true by decide), h.find_none ha, if_neg (show ¬ (0 : Int) ≤ -1 by decide)]
        split
        · exact ⟨rfl, h⟩
        · suffices h0 : Tie ({ s with fs := s.fs ++ [([], [])] } : DS) ({ t with fs := t.fs ++ [([], [], [])] } : RS) by
            refine ⟨rfl, ?_⟩
            rw [h.len]
            exact (h0.note hok.nd _).did
          refine ⟨h.rm, h.has, h.left, h.chs, by simp [h.len], fun k f g h1 h2 => ?_, h.dir, h.fx, fun p hp => by have := h.out p hp; simp; omega⟩
          have h1' : (s.fs ++ [([], [])])[k]? = some f := h1
          have h2' : (t.fs ++ [([], [], [])])[k]? = some g := h2
          by_cases hk : k < s.fs.length
          · rw [List.getElem?_append_left hk] at h1'
            rw [List.getElem?_append_left (by rw [h.len]; exact hk)] at h2'
            exact h.fs k f g h1' h2'
          · have hl := (List.getElem?_eq_some_iff.1 h1').1
            rw [List.length_append, List.length_singleton] at hl
            have hk2 : k = s.fs.length := by omega
            subst hk2
            rw [List.getElem?_append_right (Nat.le_refl _), Nat.sub_self] at h1'
            rw [List.getElem?_append_right (by rw [h.len]; exact Nat.le_refl _), h.len, Nat.sub_self] at h2'
            cases h1'; cases h2'
            refine ⟨rfl, rfl, List.Pairwise.nil, fun i => ?_, fun i hi => by cases hi⟩
            have : asc ((s.fs.length : Int), i) s.ls = none := asc_none.2 fun p hp e => by have := h.out p hp; rw [e] at this; simp at this
            show i ∈ [] ↔ (asc ((s.fs.length : Int), i) s.ls).getD false = true
            rw [this]; simp
end
end Go.Proofs.YtcdebnppbnmmgaaGreat

namespace Go.Proofs.YtcdebnppbnmmgaaGreat
open Go Go.Proofs.YtcdebnppbnmmgaaGreat.X
set_option linter.unusedVariables false
set_option linter.unusedSimpArgs false
section
variable {s : DS} {t : RS}
theorem Tie.size (h : Tie s t) (hok : s.Ok) (nm : ByteArray) : t.sizeOf nm = s.sizeOf nm := by
  rw [DS.sizeOf, RS.sizeOf]
  cases ha : asc nm s.dir with
  | none => rw [h.find_none ha, if_pos (by decide)]
  | some k =>
    have hk : 0 ≤ k := (hok.dir _ (asc_some ha)).1
    rw [h.find_some ha, if_neg (by omega), (h.flen k).1]; rfl
theorem Tie.read (h : Tie s t) (hok : s.Ok) (nm : ByteArray) (a n : Int) : t.read nm a n = s.read nm a n := by
  rw [DS.read, RS.read]
  cases ha : asc nm s.dir with
  | none => rw [h.find_none ha, if_pos (by decide)]
  | some k =>
    have hk : 0 ≤ k := (hok.dir _ (asc_some ha)).1
    rw [h.find_some ha, if_neg (by omega), (h.flen k).1]
/-- A file is set on both. -/
theorem Tie.set (h : Tie s t) {k : Int} (hk : 0 ≤ k ∧ k < s.fs.length) {f : FILE} {g : RF} {ls : LS} (h1 : g.1 = f.1 ∧ g.2.1 = f.2 ∧ Lo g.2.2 k ls f.1.length) (h2 : ∀ (j : Nat) l n, (j : Int) ≠ k → Lo l (j : Int) s.ls n → Lo l (j : Int) ls n) (h3 : ∀ p, p ∈ ls → p.1.1 < (s.fs.length : Int)) : Tie ({ s with fs := s.fs.set k.toNat f, ls := ls } : DS) ({ t with fs := t.fs.set k.toNat g } : RS) := by
  refine ⟨h.rm, h.has, h.left, h.chs, by simp [h.len], fun j f' g' a1 a2 => ?_, h.dir, h.fx, fun p hp => by have := h3 p hp; simpa using this⟩
  have a1' : (s.fs.set k.toNat f)[j]? = some f' := a1
  have a2' : (t.fs.set k.toNat g)[j]? = some g' := a2
  by_cases hj : j = k.toNat
  · subst hj
    rw [List.getElem?_set_self (by omega)] at a1'
    rw [List.getElem?_set_self (by rw [h.len]; omega)] at a2'
    cases a1'; cases a2'
    rw [show ((k.toNat : Nat) : Int) = k by omega]; exact h1
  · rw [List.getElem?_set_ne (fun e => hj e.symm)] at a1' a2'
    obtain ⟨b1, b2, b3⟩ := h.fs j f' g' a1' a2'
    exact ⟨b1, b2, h2 j _ _ (by omega) b3⟩
theorem Tie.sync (h : Tie s t) (hok : s.Ok) (nm : ByteArray) : Both (s.sync nm) (t.sync nm) := by
  rw [DS.sync, RS.sync, h.down hok]
  split
  · exact ⟨rfl, h⟩
  · cases ha : asc nm s.dir with
    | none => rw [h.find_none ha, if_pos (by decide)]; exact ⟨rfl, h⟩
    | some k =>
      obtain ⟨hk, hk2, _⟩ := hok.dir _ (asc_some ha)
      have hk : 0 ≤ k := hk
      have hk2 : k < s.fs.length := hk2
      rw [h.find_some ha, if_neg (by omega), (h.flen k).1]
      exact ⟨rfl, Tie.did (h.set ⟨hk, hk2⟩ ⟨rfl, rfl, Lo.synced k s.ls _⟩ (fun j l n hj hl => hl.kept hj) (fun p hp => h.out p (List.mem_filter.1 hp).1))⟩
end
end Go.Proofs.YtcdebnppbnmmgaaGreat

namespace Go.Proofs.YtcdebnppbnmmgaaGreat
open Go Go.Proofs.YtcdebnppbnmmgaaGreat.X
set_option linter.unusedVariables false
set_option linter.unusedSimpArgs false
section
variable {s : DS} {t : RS}
theorem Tie.lo (h : Tie s t) {k : Int} (hk : 0 ≤ k ∧ k < s.fs.length) : Lo (rfat t k).2.2 k s.ls (Go.Proofs.YtcdebnppbnmmgaaGreat.fat s.fs k).1.length := by
  obtain ⟨f, hf⟩ : ∃ f, s.fs[k.toNat]? = some f := ⟨s.fs[k.toNat]'(by omega), List.getElem?_eq_getElem _⟩
  obtain ⟨g, hg⟩ : ∃ g, t.fs[k.toNat]? = some g := ⟨t.fs[k.toNat]'(by rw [h.len]; omega), List.getElem?_eq_getElem _⟩
  obtain ⟨_, _, h3⟩ := h.fs _ f g hf hg
  rw [rfat_at hg, Go.Proofs.YtcdebnppbnmmgaaGreat.fat, List.getD_eq_getElem?_getD, hf]
  rw [show ((k.toNat : Nat) : Int) = k by omega] at h3
  exact h3
theorem Tie.rot (h : Tie s t) (hok : s.Ok) (nm : ByteArray) (a : Int) (m : UInt8) : Both (s.rot nm a m) (t.rot nm a m) := by
  rw [DS.rot, RS.rot]
  cases ha : asc nm s.dir with
  | none => rw [h.find_none ha, if_pos (by decide)]; exact ⟨rfl, h⟩
  | some k =>
    obtain ⟨hk, hk2, _⟩ := hok.dir _ (asc_some ha)
    have hk : 0 ≤ k := hk
    have hk2 : k < s.fs.length := hk2
    have hlo := h.lo ⟨hk, hk2⟩
    rw [h.find_some ha, if_neg (by omega), (h.flen k).1, (h.flen k).2]
    simp only
    split
    · exact ⟨rfl, h⟩
    · exact ⟨rfl, h.set ⟨hk, hk2⟩ ⟨rfl, rfl, by rw [rotB_len]; exact hlo⟩ (fun j l n _ hl => hl) h.out⟩
theorem markL_in {k n : Int} (hk : k < n) : ∀ (c q : Nat) (ls : LS), (∀ p, p ∈ ls → p.1.1 < n) → ∀ p, p ∈ markL k q c ls → p.1.1 < n
  | 0, _, _, h => h
  | c + 1, q, ls, h => markL_in hk c (q + 1) _ (fun p hp => by
      rcases put_mem hp with h1 | h1
      · rw [h1]; exact hk
      · exact h p h1)
theorem Tie.write (h : Tie s t) (hok : s.Ok) (nm : ByteArray) (a : Int) (y : List UInt8) : Both (s.write nm a y) (t.write nm a y) := by
  rw [DS.write, RS.write, h.down hok, h.rm, h.used hok]
  split
  · exact ⟨rfl, h⟩
  · cases ha : asc nm s.dir with
    | none => rw [h.find_none ha, if_pos (by decide)]; exact ⟨rfl, h⟩
    | some k =>
      obtain ⟨hk, hk2, _⟩ := hok.dir _ (asc_some ha)
      have hk : 0 ≤ k := hk
      have hk2 : k < s.fs.length := hk2
      have hlo := h.lo ⟨hk, hk2⟩
      rw [h.find_some ha, if_neg (by omega), (h.flen k).1, (h.flen k).2]
      simp only
      split
      · exact ⟨rfl, h⟩
      · rename_i hr
        split
        · exact ⟨rfl, h⟩
        · have hadd : (s.used : Int) - (rsec (Go.Proofs.YtcdebnppbnmmgaaGreat.fat s.fs k).1.length : Int) + (rsec (max (Go.Proofs.YtcdebnppbnmmgaaGreat.fat s.fs k).1.length (a.toNat + y.length)) : Int) = (s.used : Int) + (secs (max (Go.Proofs.YtcdebnppbnmmgaaGreat.fat s.fs k).1.length (a.toNat + y.length)) : Int) - (secs (Go.Proofs.YtcdebnppbnmmgaaGreat.fat s.fs k).1.length : Int) := by
            simp only [rsec, secs]; omega
          rw [hadd]
          split
          · exact ⟨rfl, h⟩
          · have hwl := wrt_len (Go.Proofs.YtcdebnppbnmmgaaGreat.fat s.fs k).1 a.toNat y (by omega)
            have hL : Lo (rmark (a.toNat / 64) (rtouch a.toNat y.length) (rfat t k).2.2) k (markL k (a.toNat / 64) (touched a.toNat y.length) s.ls) (wrt (Go.Proofs.YtcdebnppbnmmgaaGreat.fat s.fs k).1 a.toNat y).length := by
              refine Lo.mark _ _ (hlo.more (by simp only [hwl]; omega)) ?_
              simp only [hwl, rtouch, rsec]
              split <;> omega
            have hs := h.set (f := (wrt (Go.Proofs.YtcdebnppbnmmgaaGreat.fat s.fs k).1 a.toNat y, (Go.Proofs.YtcdebnppbnmmgaaGreat.fat s.fs k).2)) (g := (rwrt (Go.Proofs.YtcdebnppbnmmgaaGreat.fat s.fs k).1 a.toNat y, (Go.Proofs.YtcdebnppbnmmgaaGreat.fat s.fs k).2, rmark (a.toNat / 64) (rtouch a.toNat y.length) (rfat t k).2.2)) (ls := markL k (a.toNat / 64) (touched a.toNat y.length) s.ls) ⟨hk, hk2⟩ ⟨rfl, rfl, hL⟩ (fun j l n hj hl => hl.other hj _ _) (markL_in hk2 _ _ _ h.out)
            rw [h.rm] at hs
            exact ⟨rfl, hs.did⟩
theorem looseL_tie (h : Tie s t) : ∀ l : List Int, (∀ k, k ∈ l → 0 ≤ k ∧ k < s.fs.length) → looseL s l = (rls t l, rcn t l)
  | [], _ => rfl
  | k :: l, hl => by
    have hk := hl k List.mem_cons_self
    have hsp := (h.lo hk).spots
    have e : s.spots k = (rfat t k).2.2 := hsp.symm
    rw [looseL, looseL_tie h l (fun x hx => hl x (List.mem_cons_of_mem _ hx)), e, ← (h.flen k).1, ← (h.flen k).2]
    rfl
theorem Tie.loose (h : Tie s t) (hok : s.Ok) (htk : t.Ok) : t.loose = s.loose := by
  have hn := near_tie h.fx hok.ndx h.chs
  rw [RS.loose, DS.loose, h.chs, ← hn, looseL_tie h t.near (fun k hk => by have := rnear_ok htk hk; rw [h.len] at this; exact this)]
end
end Go.Proofs.YtcdebnppbnmmgaaGreat

namespace Go.Proofs.YtcdebnppbnmmgaaGreat
open Go Go.Proofs.YtcdebnppbnmmgaaGreat.X
set_option linter.unusedVariables false
set_option linter.unusedSimpArgs false
theorem rinc_len : ∀ {l : List Int} {a : Int} {n : Nat}, Inc l → (∀ x, x ∈ l → a ≤ x ∧ x < a + n) → l.length ≤ n
  | [], _, _, _, _ => Nat.zero_le _
  | x :: l, a, n, h, hr => by
    obtain ⟨h1, h2⟩ := List.pairwise_cons.1 h
    have h3 := hr x List.mem_cons_self
    have := rinc_len (a := a + 1) (n := n - 1) h2 (fun y hy => by have h4 := h1 y hy; have h5 := hr y (List.mem_cons_of_mem _ hy); omega)
    rw [List.length_cons]; omega
theorem DirT.in_ {d e : DIR} (h : DirT d e) {p : ByteArray × Int} (hp : p ∈ e) : p ∈ d := by
  have := asc_mem h.2.nd (x := p.1) (u := p.2) hp
  rw [h.1] at this
  exact asc_some this
theorem Tie.ok {s : DS} {t : RS} (h : Tie s t) (hok : s.Ok) (hs : s.size ≤ 50000) : t.Ok := by
  have hsz : s.fs.length + s.chs.length ≤ 50000 := hs
  refine ⟨by rw [h.rm]; exact hok.rm, fun p hp => ?_, fun p hp => ?_, fun c hc he => ?_, fun g hg => ?_, by rw [h.dlen hok]; exact hok.few, ?_, ⟨by rw [h.len]; omega, by rw [h.chs]; omega⟩, by rw [h.left]; exact hok.lf⟩
  · have := hok.dir p (h.dir.in_ hp); rw [h.len]; exact ⟨this.1, this.2.1⟩
  · have := hok.fx p (h.fx.in_ hp); rw [h.len]; exact ⟨this.1, this.2.1⟩
  · rw [h.chs] at hc; rw [h.len]; exact hok.chs c hc he
  · obtain ⟨k, hk⟩ := List.getElem?_of_mem hg
    have hkl := (List.getElem?_eq_some_iff.1 hk).1
    obtain ⟨f, hf⟩ : ∃ f, s.fs[k]? = some f := ⟨s.fs[k]'(by rw [← h.len]; exact hkl), List.getElem?_eq_getElem _⟩
    obtain ⟨h1, h2, h3⟩ := h.fs k f g hf hk
    have hff := hok.fs f (List.mem_of_getElem? hf)
    have hr : ∀ i, i ∈ g.2.2 → 0 ≤ i ∧ i < 16384 := fun i hi => by have := h3.rng i hi; rw [rsec] at this; omega
    refine ⟨by rw [h1]; exact hff.1, by rw [h2]; exact hff.2, rinc_len (a := 0) (n := 16384) h3.inc (fun x hx => by have := hr x hx; omega), hr⟩
  · have := (keys_perm h.fx hok.ndx).length_eq
    rw [List.length_map, List.length_map] at this
    rw [this]; exact hok.fewx
end Go.Proofs.YtcdebnppbnmmgaaGreat

namespace Go.Proofs.YtcdebnppbnmmgaaGreat
open Go Go.Proofs.YtcdebnppbnmmgaaGreat.X
set_option linter.unusedVariables false
set_option linter.unusedSimpArgs false
theorem Mine.at_ {α : Type} {K : Kd α} {e g : Nat} {w : World} {A : Option Addr} {n c : Nat} {xs : List α} (hF : Flat K) (h : Mine K e (fun q => q = g) 0 0 w (.slice A n c) xs) : Sl K g (g + 1) w A n xs := by
  obtain ⟨A', c', e1, hc, hs⟩ := (h.flat hF (lo' := g) (hi' := g + 1)).sl (fun k _ hk => by have hk : k = g := hk; omega)
  injection e1 with q1 q2 q3
  rw [← q1, ← q2] at hs
  exact hs
theorem nrs_one (x : Int) : nrs [x] = [x] := by
  have : ([x] : List Int).mergeSort (fun x y => decide (x ≤ y)) = [x] := by simp [List.mergeSort]
  rw [nrs, this]; rfl
theorem repsBo {w : World} (x : Bool) : RepsV KBo w [x] [.bool x] := ⟨⟨_, rfl, rfl, trivial⟩, trivial⟩
def nmA : ByteArray := ⟨#[97]⟩
def xsA : List UInt8 := List.replicate 100 120
def sA0 : DS := DS.mk0 9 [] [] []
def sA1 : DS := (sA0.create nmA).2
def sA2 : DS := (sA1.write nmA 0 xsA).2
def sA3 : DS := sA2.lose 1 [true] [true]
def bsA : List UInt8 := List.replicate 4 120 ++ List.replicate 36 0
theorem near_A : sA2.near = [0] := nrs_one 0
theorem loose_A : sA2.loose = (1, 2, 1) := by rw [DS.loose, near_A]; kernel_rfl
theorem left_A : sA2.left 1 [true] [true] = ([(List.replicate 64 120 ++ List.replicate 36 0, List.replicate 64 120 ++ List.replicate 36 0)], [(nmA, 0)]) := by rw [DS.left, near_A]; kernel_rfl
theorem read_A : sA3.read nmA 60 40 = (bsA, 0) := by
  rw [sA3, DS.lose, left_A]; kernel_rfl
theorem inv_A0 : sA0.Inv := Inv_new (by decide)
theorem inv_A1 : sA1.Inv := inv_A0.create nmA
theorem inv_A2 : sA2.Inv := inv_A1.write nmA 0 xsA
theorem inv_A3 : sA3.Inv := inv_A2.lose 1 [true] [true]
theorem fillA (i : Nat) (h : i < 100) : (List.replicate i (120 : UInt8) ++ List.replicate (100 - i) 0).set i 120 = List.replicate (i + 1) 120 ++ List.replicate (100 - (i + 1)) 0 := by
  rw [List.set_append_right _ _ (by simp), List.length_replicate, Nat.sub_self, show 100 - i = (100 - (i + 1)) + 1 by omega, List.replicate_succ, List.set_cons_zero, List.replicate_succ', List.append_assoc]; rfl
section
variable {col : Nat → Nat} {w : World} {b : Nat}
theorem createA_c (h : DkR col w b sA0) : Ret Tryz.prog 12 #[ptrV b, .string nmA] w fun r w' => r = .int .i64 0 ∧ ∃ col', DkR col' w' b sA1 ∧ Stp col w col' w' :=
  createR_c h inv_A0.ok nmA (by decide) (by decide)
theorem writeA_c {lo hi cy : Nat} {Ay : Option Addr} (h : DkR col w b sA1) (hy : Sl KB lo hi w Ay 100 xsA) (hy0 : ∀ q, lo ≤ q → q < hi → col q = 0 ∧ q < w.heap.size) : Ret Tryz.prog 13 #[ptrV b, .string nmA, .int .i64 0, .slice Ay 100 cy] w fun r w' => r = .int .i64 0 ∧ ∃ col', DkR col' w' b sA2 ∧ Stp col w col' w' :=
  (writeR_c h inv_A1.ok nmA 0 (by decide) hy hy0 (by decide)).mono fun r w' ⟨h1, h2⟩ => ⟨h1.trans (by rw [show (sA1.write nmA 0 xsA).1 = 0 by kernel_rfl]), h2⟩
theorem looseA_c (h : DkR col w b sA2) : Ret Tryz.prog 14 #[ptrV b] w fun r w' => r = .tuple #[.int .i64 1, .int .i64 2, .int .i64 1] ∧ Keep w w' :=
  (looseR_c h inv_A2.ok (by rw [show sA2.size = 2 by kernel_rfl]; decide)).mono fun r w' ⟨h1, h2⟩ => ⟨h1.trans (by rw [loose_A]; rfl), h2⟩
theorem loseA_c {lo hi q1 r1 q2 r2 : Nat} {Aq1 Aq2 : Option Addr} (h : DkR col w b sA2) (hS1 : Sl KBo lo hi w Aq1 q1 [true]) (hS2 : Sl KBo lo hi w Aq2 q2 [true]) (hhi : hi ≤ w.heap.size) : Ret Tryz.prog 15 #[ptrV b, .agg #[.int .i64 1, .slice Aq1 q1 r1, .slice Aq2 q2 r2]] w fun r w' => ∃ bo co, r = .tuple #[ptrV bo, .int .i64 0] ∧ DkR co w' bo sA3 ∧ Keep w w' :=
  (loseR_c h inv_A2 1 (by rw [show sA2.size = 2 by kernel_rfl]; decide) (by decide) hS1 hS2 hhi).mono fun r w' ⟨hk, h1⟩ => by
    have hl : sA2.chs.length = 1 := by kernel_rfl
    rcases h1 with ⟨h2, _⟩ | ⟨_, bo, co, h3, h4, _⟩
    · rw [hl] at h2; omega
    · exact ⟨bo, co, h3, h4, hk⟩
theorem readA_c (h : DkR col w b sA3) : Ret Tryz.prog 16 #[ptrV b, .string nmA, .int .i64 60, .int .i64 40] w fun r w' => ∃ A c, r = .tuple #[.slice A 40 c, .int .i64 0] ∧ 40 ≤ c ∧ Sl KB w.heap.size w'.heap.size w' A 40 bsA ∧ Keep w w' :=
  (readR_c h inv_A3.ok nmA 60 40 (by decide)).mono fun r w' ⟨v, h1, h2, hk⟩ => by
    rw [read_A] at h1 h2
    obtain ⟨A, c, rfl, hc, hs⟩ := (h2.flat KB_flat (lo' := w.heap.size) (hi' := w'.heap.size)).sl (fun k hk h => h)
    exact ⟨A, c, h1, hc, hs, hk⟩
end
set_option maxHeartbeats 4000000 in
set_option maxRecDepth 100000 in
theorem alive_c (w : World) : Ret Tryz.prog 5 #[] w fun r w' => r = .bool true ∧ Keep w w' := by
  refine X.enter Tryz.func5 rfl Tryz.ntmps5 rfl ?_
  refine X.seq ?_
  refine X.region ?_
  refine X.opw X.wN rfl (X.assign rfl) ?_
  refine X.opsEnd ?_
  refine X.seq ?_
  refine X.region ?_
  refine X.opE X.wN rfl (X.callE (New_ok 9 _ (by decide)) Tryz.call10 rfl rfl) ?_
  rintro _ w1 ⟨bd, bf, bdd, bx, bl, c0, rfl, hDk, hDc, hk1⟩
  have hk1' := hk1.size
  refine X.opw X.wN rfl (X.move rfl) ?_
  refine X.opw X.wN rfl (X.extr rfl rfl) ?_
  refine X.opw X.wN rfl (X.extr rfl rfl) ?_
  refine X.opw X.wN rfl (X.assign rfl) ?_
  refine X.opw X.wN rfl (X.assign (v := .int .i64 _) rfl) ?_
  refine X.opsEnd ?_
  refine X.seq ?_
  refine X.seq ?_
  refine X.region ?_
  refine X.opw X.wN rfl (X.move (v := .int .i64 _) rfl) ?_
  refine X.opw X.wN rfl (X.neI rfl rfl) ?_
  refine X.opw X.wN rfl (X.move (v := .bool false) rfl) ?_
  refine X.opw (X.wG rfl rfl rfl) rfl (X.move rfl) ?_
  refine X.opw (X.wG rfl rfl rfl) rfl (X.eqPtrN (A := some _) Tryz.underlying26 rfl rfl) ?_
  refine X.opw X.wN rfl (X.pickF (v := .bool false) rfl rfl) ?_
  refine X.opsEnd ?_
  refine X.condF rfl ?_
  refine X.skip ?_
  refine X.seq ?_
  refine X.region ?_
  have hD0 := hDk.r
  refine X.opE X.wN rfl (X.mkB (n := 100) (S := fun q => q = w1.heap.size) Tryz.underlying31 E8e rfl rfl (by omega) rfl) ?_
  rintro _ w2 ⟨rfl, hs2, gM0, hk2⟩
  have hk2' := hk2.size
  refine X.opw X.wN rfl (X.assign rfl) ?_
  refine X.opsEnd ?_
  refine X.seq ?_
  refine X.seq ?_
  refine X.region ?_
  refine X.opw X.wN rfl (X.assign rfl) ?_
  refine X.opsEnd ?_
  refine X.block ?_
  have gD := (hD0.keep hk2)
  have gM := gM0
  have hgl : w1.heap.size < w2.heap.size := by
    obtain ⟨ad, e, _, h2, _⟩ := hs2.at_ (by omega)
    cases e; exact h2
  have hkA : Keep w w2 := hk1.trans hk2
  have hcz : c0 w1.heap.size = 0 := Classical.byContradiction fun e => by have := hD0.lt _ e; omega
  refine X.loopL (σ := Nat) (fun s => [(1, ptrV bd), (3, .slice (some ⟨w1.heap.size, 0, none⟩) 100 100), (4, .int .i64 (s : Int))]) (fun s w' => s ≤ 100 ∧ DkR c0 w' bd sA0 ∧ Mine KB 5 (fun q => q = w1.heap.size) 0 0 w' (.slice (some ⟨w1.heap.size, 0, none⟩) 100 100) (List.replicate s 120 ++ List.replicate (100 - s) 0) ∧ Ext (fun q => q = w1.heap.size) w2 w') (fun s => 100 - s) 0 ⟨rfl, rfl, rfl, trivial⟩ ⟨Nat.zero_le _, gD, gM, Ext.refl _ _⟩ ?_
  rintro i e wi ⟨hi, hDi, gMi, hxi⟩ hback
  have hxi' := hxi.size
  refine X.seq ?_
  refine X.seq ?_
  refine X.region ?_
  refine X.opw X.wN rfl (X.move (v := .int .i64 _) rfl) ?_
  refine X.opw X.wN rfl (X.move rfl) ?_
  refine X.opw X.wN rfl (X.lenSl Tryz.underlying31 rfl) ?_
  refine X.opP X.wN rfl rfl (X.lss rfl rfl) (fun h28 => ?_) (fun h28 => ?_)
  · refine X.opsEnd ?_
    refine X.condT rfl ?_
    refine X.skip ?_
    refine X.seq ?_
    refine X.block ?_
    refine X.region ?_
    refine X.opw X.wN rfl (X.move rfl) ?_
    refine X.opw X.wN rfl (X.move (v := .int .i64 _) rfl) ?_
    refine X.opw X.wN rfl (X.idxS (gMi.rd KB_flat).2 Tryz.underlying31 Tryz.sizeOf5 rfl rfl ⟨by omega, by omega⟩) ?_
    refine X.opE X.wN rfl (X.storeM (y := 120) (j := i) Tryz.sizeOf5 gMi (by simp; omega) rfl rfl) ?_
    rintro _ w3 ⟨gMs, hxs, hzs⟩
    refine X.opsEnd ?_
    refine X.inBlock ?_
    refine X.region ?_
    refine X.opw X.wN rfl (X.move (v := .int .i64 _) rfl) ?_
    refine X.opw X.wN rfl (X.add rfl rfl (X.w_i64 (by omega))) ?_
    refine X.opw X.wN rfl (X.assign (v := .int .i64 _) rfl) ?_
    refine X.opsEnd ?_
    refine hback (i + 1) _ _ ⟨rfl, rfl, rfl, trivial⟩ ⟨by omega, (hDi.ext hxs (by intro q g1 g2; have g2 : q = _ := g2; subst g2; exact g1 hcz)), (by rw [← fillA i (by omega)]; exact gMs), (Ext.andThen (Ext.andThen (Ext.refl (fun q => q = w1.heap.size) _) hxi (by intro q h1 h2; first | exact (h2 : False).elim | exact h2)) hxs (by intro q h1 h2; first | exact (h2 : False).elim | exact h2))⟩ (by omega)
  · have hfull : List.replicate i (120 : UInt8) ++ List.replicate (100 - i) 0 = xsA := by rw [show i = 100 by omega]; rfl
    refine X.opsEnd ?_
    refine X.condF rfl ?_
    refine X.exit rfl ?_
    refine X.seq ?_
    refine X.region ?_
    refine X.opw X.wN rfl (X.move rfl) ?_
    refine X.opE X.wN rfl (X.callE (createA_c hDi) Tryz.call12 rfl rfl) ?_
    rintro _ w4 ⟨rfl, c1, hD1, hold1, hx4⟩
    have hx4' := hx4.size
    refine X.opw X.wN rfl (X.assign (v := .int .i64 _) rfl) ?_
    refine X.opsEnd ?_
    refine X.seq ?_
    refine X.region ?_
    refine X.opw X.wN rfl (X.move rfl) ?_
    refine X.opw X.wN rfl (X.move rfl) ?_
    refine X.opE X.wN rfl (X.callE (writeA_c hD1 (by have h9 := Mine.at_ KB_flat (gMi.ext hx4 (by intros; omega) (by intro q g1 g2; have g1 : q = _ := g1; subst g1; exact g2 hcz)); rw [hfull] at h9; exact h9) (by intro q g1 g2; rw [show q = w1.heap.size by omega]; exact ⟨(hold1 _ (by omega)).trans hcz, by omega⟩)) Tryz.call13 rfl rfl) ?_
    rintro _ w5 ⟨rfl, c2, hD2, hold2, hx5⟩
    have hx5' := hx5.size
    refine X.opw X.wN rfl (X.assign (v := .int .i64 _) rfl) ?_
    refine X.opsEnd ?_
    refine X.seq ?_
    refine X.region ?_
    refine X.opw X.wN rfl (X.move rfl) ?_
    refine X.opE X.wN rfl (X.callE (looseA_c hD2) Tryz.call14 rfl rfl) ?_
    rintro _ w6 ⟨rfl, hk6⟩
    have hk6' := hk6.size
    refine X.opw X.wN rfl (X.move rfl) ?_
    refine X.opw X.wN rfl (X.extr rfl rfl) ?_
    refine X.opw X.wN rfl (X.extr rfl rfl) ?_
    refine X.opw X.wN rfl (X.extr rfl rfl) ?_
    refine X.opw X.wN rfl (X.assign (v := .int .i64 _) rfl) ?_
    refine X.opw X.wN rfl (X.assign (v := .int .i64 _) rfl) ?_
    refine X.opw X.wN rfl (X.assign (v := .int .i64 _) rfl) ?_
    refine X.opsEnd ?_
    refine X.seq ?_
    refine X.region ?_
    refine X.opw X.wN rfl (X.move rfl) ?_
    refine X.opE X.wN rfl (X.litKF KBo_flat (K := KBo) (xs := [Operand.const (.bool true)]) (vs := [.bool true]) (ys := [true]) Tryz.underlying32 Tryz.sizeOf4 Tryz.zeroValue4 rfl rfl rfl rfl rfl (repsBo true)) ?_
    rintro _ w7 ⟨rfl, hs7, hB7, hk7, hz7⟩
    refine X.opE X.wN rfl (X.litKF KBo_flat (K := KBo) (xs := [Operand.const (.bool true)]) (vs := [.bool true]) (ys := [true]) Tryz.underlying32 Tryz.sizeOf4 Tryz.zeroValue4 rfl rfl rfl rfl rfl (repsBo true)) ?_
    rintro _ w8 ⟨rfl, hs8, hB8, hk8, hz8⟩
    refine X.opw X.wN rfl (X.buildB (vs := [(0, .int .i64 1), (1, .slice (some ⟨w6.heap.size, 0, none⟩) 1 1), (2, .slice (some ⟨w7.heap.size, 0, none⟩) 1 1)]) (cs := #[.int .i64 1, .slice (some ⟨w6.heap.size, 0, none⟩) 1 1, .slice (some ⟨w7.heap.size, 0, none⟩) 1 1]) rfl (by kernel_rfl)) ?_
    refine X.opE X.wN rfl (X.callE (loseA_c (lo := 0) (hi := w8.heap.size) (((hD2.keep hk6).keep hk7).keep hk8) ((hs7.keep hk8).wide (Nat.zero_le _) (by omega)) (hs8.wide (Nat.zero_le _) (by omega)) (Nat.le_refl _)) Tryz.call15 rfl rfl) ?_
    rintro _ w9 ⟨bo, co, rfl, hD3, hk9⟩
    have hk9' := hk9.size
    refine X.opw X.wN rfl (X.move rfl) ?_
    refine X.opw X.wN rfl (X.extr rfl rfl) ?_
    refine X.opw X.wN rfl (X.extr rfl rfl) ?_
    refine X.opw X.wN rfl (X.assign rfl) ?_
    refine X.opw X.wN rfl (X.assign (v := .int .i64 _) rfl) ?_
    refine X.opsEnd ?_
    refine X.seq ?_
    refine X.seq ?_
    refine X.region ?_
    refine X.opw X.wN rfl (X.move (v := .int .i64 _) rfl) ?_
    refine X.opw X.wN rfl (X.neI rfl rfl) ?_
    refine X.opw X.wN rfl (X.move (v := .bool false) rfl) ?_
    refine X.opw (X.wG rfl rfl rfl) rfl (X.move (v := .int .i64 _) rfl) ?_
    refine X.opw (X.wG rfl rfl rfl) rfl (X.neI rfl rfl) ?_
    refine X.opw X.wN rfl (X.pickF (v := .bool false) rfl rfl) ?_
    refine X.opw X.wN rfl (X.move (v := .bool false) rfl) ?_
    refine X.opw (X.wG rfl rfl rfl) rfl (X.move (v := .int .i64 _) rfl) ?_
    refine X.opw (X.wG rfl rfl rfl) rfl (X.neI rfl rfl) ?_
    refine X.opw X.wN rfl (X.pickF (v := .bool false) rfl rfl) ?_
    refine X.opw X.wN rfl (X.move (v := .bool false) rfl) ?_
    refine X.opw (X.wG rfl rfl rfl) rfl (X.move rfl) ?_
    refine X.opw (X.wG rfl rfl rfl) rfl (X.eqPtrN (A := some _) Tryz.underlying26 rfl rfl) ?_
    refine X.opw X.wN rfl (X.pickF (v := .bool false) rfl rfl) ?_
    refine X.opsEnd ?_
    refine X.condF rfl ?_
    refine X.skip ?_
    refine X.seq ?_
    refine X.region ?_
    refine X.opw X.wN rfl (X.move rfl) ?_
    refine X.opE X.wN rfl (X.callE (readA_c hD3) Tryz.call16 rfl rfl) ?_
    rintro _ w10 ⟨Ac, cc, rfl, hcc, hSc, hk10⟩
    have hk10' := hk10.size
    refine X.opw X.wN rfl (X.move rfl) ?_
    refine X.opw X.wN rfl (X.extr rfl rfl) ?_
    refine X.opw X.wN rfl (X.extr rfl rfl) ?_
    refine X.opw X.wN rfl (X.assign (v := .slice _ _ _) rfl) ?_
    refine X.opw X.wN rfl (X.assign (v := .int .i64 _) rfl) ?_
    refine X.opsEnd ?_
    refine X.seq ?_
    refine X.region ?_
    refine X.opw X.wN rfl (X.move (v := .int .i64 _) rfl) ?_
    refine X.opw X.wN rfl (X.eqI rfl rfl) ?_
    refine X.opw X.wN rfl (X.move (v := .bool true) rfl) ?_
    refine X.opw (X.wG rfl rfl rfl) rfl (X.move (v := .int .i64 _) rfl) ?_
    refine X.opw (X.wG rfl rfl rfl) rfl (X.eqI rfl rfl) ?_
    refine X.opw X.wN rfl (X.pickT (v := .bool true) rfl rfl) ?_
    refine X.opw X.wN rfl (X.move (v := .bool true) rfl) ?_
    refine X.opw (X.wG rfl rfl rfl) rfl (X.move (v := .int .i64 _) rfl) ?_
    refine X.opw (X.wG rfl rfl rfl) rfl (X.eqI rfl rfl) ?_
    refine X.opw X.wN rfl (X.pickT (v := .bool true) rfl rfl) ?_
    refine X.opw X.wN rfl (X.move (v := .bool true) rfl) ?_
    refine X.opw (X.wG rfl rfl rfl) rfl (X.move (v := .int .i64 _) rfl) ?_
    refine X.opw (X.wG rfl rfl rfl) rfl (X.eqI rfl rfl) ?_
    refine X.opw X.wN rfl (X.pickT (v := .bool true) rfl rfl) ?_
    refine X.opw X.wN rfl (X.move (v := .bool true) rfl) ?_
    refine X.opw (X.wG rfl rfl rfl) rfl (X.move (v := .slice _ _ _) rfl) ?_
    refine X.opw (X.wG rfl rfl rfl) rfl (X.lenSl Tryz.underlying31 rfl) ?_
    refine X.opw (X.wG rfl rfl rfl) rfl (X.eqI rfl rfl) ?_
    refine X.opw X.wN rfl (X.pickT (v := .bool true) rfl rfl) ?_
    refine X.opw X.wN rfl (X.move (v := .bool true) rfl) ?_
    refine X.opw (X.wG rfl rfl rfl) rfl (X.move (v := .slice _ _ _) rfl) ?_
    refine X.opw (X.wG rfl rfl rfl) rfl (X.cutHr Tryz.underlying31 Tryz.sizeOf5 rfl rfl (by omega)) ?_
    refine X.opw (X.wG rfl rfl rfl) rfl (X.str Tryz.underlying31 Tryz.underlying5 Tryz.underlying9 rfl KB_is rfl (hSc.take 5 (by omega))) ?_
    refine X.opw (X.wG rfl rfl rfl) rfl (X.eqD rfl rfl) ?_
    refine X.opw X.wN rfl (X.pickT (v := .bool true) rfl rfl) ?_
    refine X.opw X.wN rfl (X.move (v := .bool true) rfl) ?_
    refine X.opw (X.wG rfl rfl rfl) rfl (X.move (v := .slice _ _ _) rfl) ?_
    refine X.opw (X.wG rfl rfl rfl) rfl (X.idxS hSc Tryz.underlying31 Tryz.sizeOf5 rfl rfl ⟨by omega, by omega⟩) ?_
    refine X.opw (X.wG rfl rfl rfl) rfl (X.loadS Tryz.isAgg5 hSc (show bsA[39]? = some 0 from rfl) rfl (fun _ h => by rw [h.1]; rfl)) ?_
    refine X.opw (X.wG rfl rfl rfl) rfl (X.eqI rfl rfl) ?_
    refine X.opw X.wN rfl (X.pickT (v := .bool true) rfl rfl) ?_
    refine X.opw X.wN rfl (X.assign (v := .bool true) rfl) ?_
    refine X.opsEnd ?_
    refine X.ret1 (v := (.bool _)) Tryz.func5 Tryz.results5 rfl ?_
    exact ⟨rfl, ((((((((hkA.step hxi (by intro q g1; have g1 : q = _ := g1; omega)).step hx4 (fun q g1 => hDc q g1)).step hx5 (fun q g1 => if g2 : q < wi.heap.size then hDc q (fun e => g1 ((hold1 q g2).trans e)) else by omega)).trans hk6).trans hk7).trans hk8).trans hk9).trans hk10)⟩
end Go.Proofs.YtcdebnppbnmmgaaGreat

namespace Go.Proofs.YtcdebnppbnmmgaaGreat
open Go Go.Proofs.YtcdebnppbnmmgaaGreat.X
set_option linter.unusedVariables false
set_option linter.unusedSimpArgs false
/-- What the names' files take. -/
def tks (f : Int → Nat) (d : DIR) : Nat := (d.map fun p => f p.2).sum
theorem tks_cons (f : Int → Nat) (p : ByteArray × Int) (d : DIR) : tks f (p :: d) = f p.2 + tks f d := by simp [tks]
theorem costs_tks (sz : Int → Nat) {d : DIR} (hn : (d.map (·.1)).Nodup) : costs sz d = tks (fun k => (sz k + 63) / 64) d := by
  rw [costs, tks, List.map_map]
  congr 1
  refine List.map_congr_left fun p hp => ?_
  show cost sz d p.1 = _
  rw [cost, asc_mem hn (x := p.1) (u := p.2) hp]; rfl
theorem DS.used_tks {s : DS} (h : s.Ok) : s.used = tks (fun k => (flen s.fs k + 63) / 64) s.dir := costs_tks _ h.nd
theorem tks_del (f : Int → Nat) (x : ByteArray) : ∀ d : DIR, tks f (del x d) + ((asc x d).map f).getD 0 = tks f d
  | [] => rfl
  | (a, u) :: d => by
    rw [del, asc]
    by_cases h : x = a
    · rw [if_pos h, if_pos h, tks_cons]; show _ + f u = _; simp only []; omega
    · rw [if_neg h, if_neg h, tks_cons, tks_cons]
      have := tks_del f x d
      simp only []; omega
theorem tks_put (f : Int → Nat) (x : ByteArray) (k : Int) : ∀ d : DIR, tks f (put x k d) ≤ tks f d + f k
  | [] => by simp [put, tks]
  | (a, u) :: d => by
    rw [put]
    by_cases h : x = a
    · rw [if_pos h, tks_cons, tks_cons]; simp only []; omega
    · rw [if_neg h, tks_cons, tks_cons]
      have := tks_put f x k d
      simp only []; omega
theorem tks_congr {f g : Int → Nat} {d : DIR} (h : ∀ p, p ∈ d → f p.2 = g p.2) : tks f d = tks g d := by
  rw [tks, tks, List.map_congr_left h]
theorem tks_one {f g : Int → Nat} {k : Int} (h : ∀ j, j ≠ k → f j = g j) : ∀ {d : DIR}, (d.map (·.2)).Nodup → ∀ x, asc x d = some k → tks f d + g k = tks g d + f k
  | [], _, x, hx => by cases hx
  | (a, u) :: d, hn, x, hx => by
    obtain ⟨h1, h2⟩ := List.nodup_cons.1 (by simpa using hn : (u :: d.map (·.2)).Nodup)
    rw [asc] at hx
    rw [tks_cons, tks_cons]
    by_cases hxa : x = a
    · rw [if_pos hxa] at hx
      cases hx
      have : tks f d = tks g d := tks_congr fun p hp => h p.2 fun e => h1 (List.mem_map.2 ⟨p, hp, e⟩)
      simp only []; omega
    · rw [if_neg hxa] at hx
      have hk : k ∈ d.map (·.2) := List.mem_map.2 ⟨_, asc_some hx, rfl⟩
      have := h u fun e => h1 (e ▸ hk)
      have := tks_one h h2 x hx
      simp only []; omega
theorem flen_set (fs : List FILE) (k : Nat) (f : FILE) (j : Int) (hj : 0 ≤ j) (hk : k < fs.length) : flen (fs.set k f) j = if j.toNat = k then f.1.length else flen fs j := by
  rw [flen, flen, List.getD_eq_getElem?_getD, List.getD_eq_getElem?_getD]
  by_cases e : j.toNat = k
  · rw [if_pos e, e, List.getElem?_set_self hk]; rfl
  · rw [if_neg e, List.getElem?_set_ne (fun h => e h.symm)]
/-- The room, and what is taken of it. -/
def DS.Fits (r : Int) (s : DS) : Prop := s.rm = r ∧ (s.used : Int) ≤ r
section
variable {s : DS} {r : Int}
theorem DS.Fits.did (h : s.Fits r) : s.did.Fits r := h
theorem Fits_new {r : Int} (h : 1 ≤ r) : (DS.mk0 r [] [] []).Fits r := ⟨rfl, by show ((0 : Nat) : Int) ≤ r; omega⟩
theorem DS.Fits.fuse (h : s.Fits r) (n : Int) : (s.fuse n).2.Fits r := by
  rw [DS.fuse]; split
  · exact h
  · exact h
theorem DS.Fits.syncDir (h : s.Fits r) : s.syncDir.2.Fits r := by
  rw [DS.syncDir]; split
  · exact h
  · exact h
theorem DS.Fits.delete (h : s.Fits r) (hi : s.Inv) (nm : ByteArray) : (s.delete nm).2.Fits r := by
  have hi2 := hi.delete nm
  rw [DS.delete] at hi2 ⊢; split
  · exact h
  · rename_i hd
    split
    · exact h
    · rename_i hn
      rw [if_neg hd, if_neg hn] at hi2
      refine ⟨h.1, ?_⟩
      have h2 := h.2
      rw [DS.used_tks hi.ok] at h2
      rw [DS.used_tks hi2.ok]
      show ((tks (fun k => (Go.Proofs.YtcdebnppbnmmgaaGreat.flen s.fs k + 63) / 64) (trn (nm, ⟨#[]⟩, 0) s.dir) : Nat) : Int) ≤ r
      rw [trn_eq, if_pos rfl]
      split
      · exact h2
      · have := tks_del (fun k => (Go.Proofs.YtcdebnppbnmmgaaGreat.flen s.fs k + 63) / 64) nm s.dir
        have e : del ((nm, (⟨#[]⟩ : ByteArray), (0 : Int)) : CHG).1 s.dir = del nm s.dir := rfl
        rw [e]; omega
theorem DS.Fits.create (h : s.Fits r) (hi : s.Inv) (nm : ByteArray) : (s.create nm).2.Fits r := by
  have hi2 := hi.create nm
  rw [DS.create] at hi2 ⊢; split
  · exact h
  · rename_i h1; split
    · exact h
    · rename_i h2; split
      · exact h
      · rename_i h3; split
        · exact h
        · rename_i h4
          rw [if_neg h1, if_neg h2, if_neg h3, if_neg h4] at hi2
          refine ⟨h.1, ?_⟩
          have hu := h.2
          rw [DS.used_tks hi.ok] at hu
          rw [DS.used_tks hi2.ok]
          have hrn : nm ≠ ⟨#[]⟩ := by
            cases hq : rightN nm with
            | false => exact absurd hq h2
            | true => rw [rightN] at hq; exact (of_decide_eq_true hq).1
          show ((tks (fun k => (Go.Proofs.YtcdebnppbnmmgaaGreat.flen (s.fs ++ [([], [])]) k + 63) / 64) (trn (⟨#[]⟩, nm, (s.fs.length : Int)) s.dir) : Nat) : Int) ≤ r
          rw [trn_eq, if_neg hrn, if_pos rfl]
          have a1 := tks_put (fun k => (Go.Proofs.YtcdebnppbnmmgaaGreat.flen (s.fs ++ [([], [])]) k + 63) / 64) nm (s.fs.length : Int) s.dir
          have a2 : tks (fun k => (Go.Proofs.YtcdebnppbnmmgaaGreat.flen (s.fs ++ [([], [])]) k + 63) / 64) s.dir = tks (fun k => (Go.Proofs.YtcdebnppbnmmgaaGreat.flen s.fs k + 63) / 64) s.dir := tks_congr fun p hp => by
            have := hi.ok.dir p hp
            rw [Go.Proofs.YtcdebnppbnmmgaaGreat.flen, Go.Proofs.YtcdebnppbnmmgaaGreat.flen, List.getD_eq_getElem?_getD, List.getD_eq_getElem?_getD, List.getElem?_append_left (by omega)]
          have a3 : (Go.Proofs.YtcdebnppbnmmgaaGreat.flen (s.fs ++ [([], [])]) (s.fs.length : Int) + 63) / 64 = 0 := by
            rw [Go.Proofs.YtcdebnppbnmmgaaGreat.flen, List.getD_eq_getElem?_getD, Int.toNat_natCast, List.getElem?_append_right (Nat.le_refl _), Nat.sub_self]; rfl
          simp only [a3] at a1
          have e : put ((⟨#[]⟩, nm, (s.fs.length : Int)) : CHG).2.1 ((⟨#[]⟩, nm, (s.fs.length : Int)) : CHG).2.2 s.dir = put nm (s.fs.length : Int) s.dir := rfl
          rw [e]; omega
theorem DS.Fits.rename (h : s.Fits r) (hi : s.Inv) (nm to : ByteArray) : (s.rename nm to).2.Fits r := by
  have hi2 := hi.rename nm to
  rw [DS.rename] at hi2 ⊢; split
  · exact h
  · rename_i h1
    rw [if_neg h1] at hi2
    cases ha : asc nm s.dir with
    | none => exact h
    | some k =>
      rw [ha] at hi2
      simp only at hi2 ⊢
      split
      · exact h
      · rename_i h2
        rw [if_neg h2] at hi2
        split
        · exact h
        · rename_i h3
          rw [if_neg h3] at hi2
          refine ⟨h.1, ?_⟩
          have hu := h.2
          rw [DS.used_tks hi.ok] at hu
          rw [DS.used_tks hi2.ok]
          have hrn : to ≠ ⟨#[]⟩ := by
            cases hq : rightN to with
            | false => exact absurd hq h2
            | true => rw [rightN] at hq; exact (of_decide_eq_true hq).1
          have hnn : nm ≠ ⟨#[]⟩ := hi.ne _ (asc_some ha)
          show ((tks (fun k => (Go.Proofs.YtcdebnppbnmmgaaGreat.flen s.fs k + 63) / 64) (trn (nm, to, k) s.dir) : Nat) : Int) ≤ r
          rw [trn_eq, if_neg hrn, if_neg hnn]
          have a1 := tks_put (fun k => (Go.Proofs.YtcdebnppbnmmgaaGreat.flen s.fs k + 63) / 64) to k (del nm s.dir)
          have a2 := tks_del (fun k => (Go.Proofs.YtcdebnppbnmmgaaGreat.flen s.fs k + 63) / 64) nm s.dir
          rw [ha] at a2
          have a2 : tks (fun k => (Go.Proofs.YtcdebnppbnmmgaaGreat.flen s.fs k + 63) / 64) (del nm s.dir) + (Go.Proofs.YtcdebnppbnmmgaaGreat.flen s.fs k + 63) / 64 = tks (fun k => (Go.Proofs.YtcdebnppbnmmgaaGreat.flen s.fs k + 63) / 64) s.dir := a2
          have e : put ((nm, to, k) : CHG).2.1 ((nm, to, k) : CHG).2.2 (del ((nm, to, k) : CHG).1 s.dir) = put to k (del nm s.dir) := rfl
          rw [e]; omega
theorem fits_set {f : FILE} {k : Int} {nm : ByteArray} (hi : s.Inv) (ha : asc nm s.dir = some k) (h : ((s.used + (f.1.length + 63) / 64 : Nat) : Int) ≤ r + (((Go.Proofs.YtcdebnppbnmmgaaGreat.flen s.fs k + 63) / 64 : Nat) : Int)) : ((tks (fun j => (Go.Proofs.YtcdebnppbnmmgaaGreat.flen (s.fs.set k.toNat f) j + 63) / 64) s.dir : Nat) : Int) ≤ r := by
  obtain ⟨hk, hk2, _⟩ := hi.ok.dir _ (asc_some ha)
  have hk : 0 ≤ k := hk
  have hk2 : k < s.fs.length := hk2
  rw [DS.used_tks hi.ok] at h
  have hg : tks (fun j => (Go.Proofs.YtcdebnppbnmmgaaGreat.flen (s.fs.set k.toNat f) j + 63) / 64) s.dir = tks (fun j => if j = k then (f.1.length + 63) / 64 else (Go.Proofs.YtcdebnppbnmmgaaGreat.flen s.fs j + 63) / 64) s.dir := tks_congr fun p hp => by
    have hp0 := (hi.ok.dir p hp).1
    rw [flen_set _ _ _ _ hp0 (by omega)]
    by_cases e : p.2 = k
    · rw [if_pos (by rw [e]), if_pos e]
    · rw [if_neg (by omega), if_neg e]
  rw [hg]
  have := tks_one (f := fun j => if j = k then (f.1.length + 63) / 64 else (Go.Proofs.YtcdebnppbnmmgaaGreat.flen s.fs j + 63) / 64) (g := fun j => (Go.Proofs.YtcdebnppbnmmgaaGreat.flen s.fs j + 63) / 64) (k := k) (fun j hj => if_neg hj) hi.vals nm ha
  simp only [if_true] at this
  omega
theorem DS.Fits.sync (h : s.Fits r) (hi : s.Inv) (nm : ByteArray) : (s.sync nm).2.Fits r := by
  have hi2 := hi.sync nm
  rw [DS.sync] at hi2 ⊢; split
  · exact h
  · rename_i h1
    rw [if_neg h1] at hi2
    cases ha : asc nm s.dir with
    | none => exact h
    | some k =>
      rw [ha] at hi2
      refine ⟨h.1, ?_⟩
      rw [DS.used_tks hi2.ok]
      refine fits_set (k := k) hi ha ?_
      have := h.2
      have e : (fat s.fs k).1.length = Go.Proofs.YtcdebnppbnmmgaaGreat.flen s.fs k := rfl
      simp only [e]; omega
theorem DS.Fits.write (h : s.Fits r) (hi : s.Inv) (nm : ByteArray) (a : Int) (x : List UInt8) : (s.write nm a x).2.Fits r := by
  have hi2 := hi.write nm a x
  rw [DS.write] at hi2 ⊢; split
  · exact h
  · rename_i h1
    rw [if_neg h1] at hi2
    cases ha : asc nm s.dir with
    | none => exact h
    | some k =>
      rw [ha] at hi2
      simp only at hi2 ⊢
      split
      · exact h
      · rename_i h2
        rw [if_neg h2] at hi2
        split
        · exact h
        · rename_i h3
          rw [if_neg h3] at hi2
          split
          · exact h
          · rename_i h4
            rw [if_neg h4] at hi2
            refine ⟨h.1, ?_⟩
            rw [DS.used_tks hi2.ok]
            refine fits_set (k := k) hi ha ?_
            have hr := h.1
            have e : (fat s.fs k).1.length = Go.Proofs.YtcdebnppbnmmgaaGreat.flen s.fs k := rfl
            simp only [secs] at h4
            rw [e] at h4 h2
            simp only []
            rw [wrt_len _ _ _ (by rw [e]; omega), e]
            omega
theorem DS.Fits.rot (h : s.Fits r) (hi : s.Inv) (nm : ByteArray) (a : Int) (m : UInt8) : (s.rot nm a m).2.Fits r := by
  have hi2 := hi.rot nm a m
  rw [DS.rot] at hi2 ⊢
  cases ha : asc nm s.dir with
  | none => exact h
  | some k =>
    rw [ha] at hi2
    simp only at hi2 ⊢
    split
    · exact h
    · rename_i h2
      rw [if_neg h2] at hi2
      refine ⟨h.1, ?_⟩
      rw [DS.used_tks hi2.ok]
      refine fits_set (k := k) hi ha ?_
      have := h.2
      have e : (rotB (fat s.fs k).1 a.toNat m).length = Go.Proofs.YtcdebnppbnmmgaaGreat.flen s.fs k := rotB_len _ _ _
      simp only [e]; omega
end
end Go.Proofs.YtcdebnppbnmmgaaGreat

namespace Go.Proofs.YtcdebnppbnmmgaaGreat
open Go Go.Proofs.YtcdebnppbnmmgaaGreat.X
set_option linter.unusedVariables false
set_option linter.unusedSimpArgs false
set_option maxHeartbeats 4000000 in
set_option maxRecDepth 100000 in
theorem keys1_c {d : DIR} (yv : Value) (bl bd : Nat) (U : Nat → Prop) (J : List ByteArray → World → Prop) (w : World) (hB : Blk w bl [.map (some bd)] 67) (hG : MPD w bd d) (hUb : ¬ U bl ∧ ¬ U bd ∧ ¬ U w.heap.size) (hd : d.length ≤ 1000)
    (hJ0 : ∀ w', Keep w w' → J [] w') (hJ : ∀ l w1 w2, J l w1 → Ext (fun k => k = w.heap.size) w1 w2 → J l w2) (hy : ∀ y l w2, J l w2 → y ∈ d.map (·.1) → y ∉ l → l.Nodup → YC Tryz.prog yv [.string y] w2 fun v w3 => v = .bool true ∧ Ext U w2 w3 ∧ J (y :: l) w3) :
    Ret Tryz.prog 77 #[yv, ptrV bl] w fun v w' => v = .tuple #[] ∧ (∃ l, l.Nodup ∧ (∀ k, k ∈ l ↔ k ∈ d.map (·.1)) ∧ J l w') ∧ Ext (fun k => U k ∨ k = w.heap.size) w w' := by
  have hbl := hB.lt
  have hbd := hG.lt
  refine X.enter Tryz.func77 rfl Tryz.ntmps77 rfl ?_
  refine X.seq ?_
  refine X.region ?_
  refine X.opw X.wN rfl (X.load1B Tryz.isAgg67 hB rfl rfl) ?_
  refine X.opE X.wN rfl (X.rangeE (enc := (fun x : ByteArray => Value.string x)) Tryz.underlying67 hG rfl) ?_
  rintro _ w1 ⟨rfl, hI1, hk1, hz1⟩
  refine X.opsEnd ?_
  refine X.block ?_
  refine X.loopL (σ := List ByteArray) (fun s => [(0, yv), (5, .pointer (some ⟨w.heap.size, 0, none⟩))]) (fun s w' => It (fun x : ByteArray => Value.string x) w' w.heap.size bd (mv (fun v : Int => Value.int .i64 v) d) s ∧ s.Nodup ∧ (∀ k, k ∈ s → k ∈ d.map (·.1)) ∧ J s w' ∧ MPD w' bd d ∧ Ext (fun k => U k ∨ k = w.heap.size) w w') (fun s => d.length + 1 - s.length) [] ⟨rfl, rfl, trivial⟩ ⟨hI1, List.nodup_nil, fun _ h => (by simp at h), hJ0 _ hk1, (hG.keep hk1), (Ext.andThen (Ext.refl (fun k => U k ∨ k = w.heap.size) _) hk1 (by intro q h1 h2; first | exact (h2 : False).elim | exact h2 | exact .inl h2 | exact .inr h2))⟩ ?_
  rintro ds e w1 ⟨hI, hnd, hin, hJl, hGl, hx⟩ hback
  have hx' := hx.size
  have hdl := nodup_len hnd hin
  rw [List.length_map] at hdl
  refine X.seq ?_
  refine X.region ?_
  refine X.opE X.wN rfl (X.nextE hI rfl) ?_
  rintro _ w2 (⟨rfl, hall2, rfl⟩ | ⟨p2, hp2, hpn2, rfl, hI2, hx2, hz2⟩)
  · 
    refine X.opw X.wN rfl (X.extr rfl rfl) ?_
    refine X.opsEnd ?_
    refine X.seq ?_
    refine X.condF rfl ?_
    refine X.exit rfl ?_
    refine X.end0 Tryz.func77 Tryz.results77 ?_
    have hall : ∀ k, k ∈ d.map (·.1) → k ∈ ds := fun k hm => by
      obtain ⟨q, hq, rfl⟩ := List.mem_map.1 hm
      exact hall2 (q.1, .int .i64 q.2) (List.mem_map.2 ⟨q, hq, rfl⟩)
    exact ⟨rfl, ⟨ds, hnd, fun k => ⟨hin k, hall k⟩, hJl⟩, hx⟩
  · have hx2' := hx2.size
    obtain ⟨q, hq, rfl⟩ : ∃ q : ByteArray × Int, q ∈ d ∧ p2 = (q.1, Value.int .i64 q.2) := by
      obtain ⟨q, hq, e⟩ := List.mem_map.1 hp2
      exact ⟨q, hq, e.symm⟩
    refine X.opw X.wN rfl (X.extr rfl rfl) ?_
    refine X.opsEnd ?_
    refine X.seq ?_
    refine X.condT rfl ?_
    refine X.skip ?_
    refine X.block ?_
    refine X.seq ?_
    refine X.region ?_
    refine X.opw X.wN rfl (X.entryE hI2 hp2 rfl) ?_
    refine X.opw X.wN rfl (X.extr rfl rfl) ?_
    refine X.opw X.wN rfl (X.assign (v := .string _) rfl) ?_
    refine X.opsEnd ?_
    refine X.seq ?_
    refine X.region ?_
    refine X.opw X.wN rfl (X.move rfl) ?_
    refine X.opw X.wN rfl (X.move (v := .string _) rfl) ?_
    refine X.opE X.wN rfl ((hy q.1 ds _ (hJ _ _ _ hJl (Ext.andThen (Ext.refl (fun k => k = w.heap.size) _) hx2 (by intro q h1 h2; first | exact (h2 : False).elim | exact h2))) (List.mem_map.2 ⟨q, hq, rfl⟩) hpn2 hnd) _ _ _ _ _ _ _ _ _ rfl rfl) ?_
    rintro _ w3 ⟨rfl, hx3, hJn⟩
    have hx3' := hx3.size
    refine X.opw X.wN rfl (X.not_ rfl) ?_
    refine X.opsEnd ?_
    refine X.condB rfl (fun hc => ?_) (fun hc => ?_)
    · exact absurd hc (by decide)
    · refine X.skip ?_
      refine X.inBlock ?_
      refine hback (q.1 :: ds) _ _ ⟨rfl, rfl, trivial⟩ ⟨(hI2.ext hx3 (by first | (intros; (try simp only [] at *); omega) | (intro hh; (try simp only [] at hh); omega) | (intro hh; have hh : _ = _ := hh; subst hh; omega) | exact fun h => hUb.1 h | exact fun h => hUb.2.1 h | exact fun h => hUb.2.2 h) (by first | (intros; (try simp only [] at *); omega) | (intro hh; (try simp only [] at hh); omega) | (intro hh; have hh : _ = _ := hh; subst hh; omega) | exact fun h => hUb.1 h | exact fun h => hUb.2.1 h | exact fun h => hUb.2.2 h)), List.nodup_cons.2 ⟨hpn2, hnd⟩, ?_, hJn, ((hGl.ext hx2 (by first | (intros; (try simp only [] at *); omega) | (intro hh; (try simp only [] at hh); omega) | (intro hh; have hh : _ = _ := hh; subst hh; omega) | exact fun h => hUb.1 h | exact fun h => hUb.2.1 h | exact fun h => hUb.2.2 h)).ext hx3 (by first | (intros; (try simp only [] at *); omega) | (intro hh; (try simp only [] at hh); omega) | (intro hh; have hh : _ = _ := hh; subst hh; omega) | exact fun h => hUb.1 h | exact fun h => hUb.2.1 h | exact fun h => hUb.2.2 h)), (Ext.andThen (Ext.andThen (Ext.andThen (Ext.refl (fun k => U k ∨ k = w.heap.size) _) hx (by intro q h1 h2; first | exact (h2 : False).elim | exact h2 | exact .inl h2 | exact .inr h2)) hx2 (by intro q h1 h2; first | exact (h2 : False).elim | exact h2 | exact .inl h2 | exact .inr h2)) hx3 (by intro q h1 h2; first | exact (h2 : False).elim | exact h2 | exact .inl h2 | exact .inr h2))⟩ ?_
      · intro k hk1
        rcases List.mem_cons.1 hk1 with rfl | hk1
        · exact List.mem_map.2 ⟨q, hq, rfl⟩
        · exact hin k hk1
      · have hnd2 : (q.1 :: ds).Nodup := List.nodup_cons.2 ⟨hpn2, hnd⟩
        have := nodup_len (ks := d.map (·.1)) hnd2 (fun k hk1 => by
          rcases List.mem_cons.1 hk1 with rfl | hk1
          · exact List.mem_map.2 ⟨q, hq, rfl⟩
          · exact hin k hk1)
        simp only [List.length_map, List.length_cons] at this ⊢
        omega
end Go.Proofs.YtcdebnppbnmmgaaGreat

namespace Go.Proofs.YtcdebnppbnmmgaaGreat
open Go Go.Proofs.YtcdebnppbnmmgaaGreat.X
set_option linter.unusedVariables false
set_option linter.unusedSimpArgs false
theorem ERs_ : ElemInfo Tryz.prog 9 1 16 := ElemInfo.of (z := .string ⟨#[]⟩) (by kernel_rfl) rfl rfl rfl
theorem repsS_ {w : World} (x : ByteArray) (h : x.size ≤ 9223372036854775807) : RepsV KS w [x] [.string x] := ⟨⟨_, rfl, rfl, h⟩, trivial⟩
set_option maxHeartbeats 4000000 in
set_option maxRecDepth 100000 in
theorem appendSeq_c {d : DIR} (w : World) (bl bd : Nat) (hB : Blk w bl [.map (some bd)] 67) (hG : MPD w bd d) (hd : d.length ≤ 1000) (hsz : ∀ y, y ∈ d.map (·.1) → y.size ≤ 9223372036854775807) : Ret Tryz.prog 80 #[.slice none 0 0, .func (.func 77) #[] #[ptrV bl]] w fun v w' => ∃ l : List ByteArray, l.Nodup ∧ (∀ k, k ∈ l ↔ k ∈ d.map (·.1)) ∧ Mine KS 9 (fun k => w.heap.size ≤ k ∧ k < w'.heap.size) 0 0 w' v l ∧ Keep w w' := by
  have hbl := hB.lt
  have hbd := hG.lt
  refine X.enter Tryz.func80 rfl Tryz.ntmps80 rfl ?_
  refine X.seq ?_
  refine X.region ?_
  refine X.opE X.wN rfl (X.boxE rfl rfl) ?_
  rintro _ w1 ⟨rfl, hB1, hk1, hz1⟩
  refine X.opw X.wN rfl (X.assign rfl) ?_
  refine X.opsEnd ?_
  refine X.seq ?_
  refine X.seq ?_
  refine X.region ?_
  refine X.opw X.wN rfl (X.move rfl) ?_
  refine X.opsEnd ?_
  refine X.block ?_
  refine X.rangeFunc' (cap := [ptrV bl]) (Q := fun w' => ∃ v, ∃ l : List ByteArray, Blk w' w.heap.size [v] 72 ∧ l.Nodup ∧ (∀ k, k ∈ l ↔ k ∈ d.map (·.1)) ∧ Mine KS 9 (fun k => w.heap.size ≤ k ∧ k ≠ w.heap.size ∧ k ≠ (w1.heap.size + 1) ∧ k ≠ w1.heap.size ∧ k ≠ (w1.heap.size + 2)) 0 0 w' v l.reverse ∧ w'.heap[w1.heap.size]? = some (.deferred (some [])) ∧ Keep w w' ∧ w1.heap.size + 2 ≤ w'.heap.size) rfl Tryz.call77 rfl rfl (fun rec wq T0 hr1 hr2 hr3 hr4 hrT hr5 hr6 hr7 hrl hrd kq zq => ?_) ?_
  · have zq' : wq.heap.size = w1.heap.size + 2 := zq
    refine (keys1_c (d := d) _ bl bd (fun k => w.heap.size ≤ k ∧ k ≠ (w1.heap.size + 2)) (fun l1 w' => ∃ v, (∀ k, k ∈ l1 → k ∈ d.map (·.1)) ∧ Blk w' w.heap.size [v] 72 ∧ Mine KS 9 (fun k => w.heap.size ≤ k ∧ k ≠ w.heap.size ∧ k ≠ (w1.heap.size + 1) ∧ k ≠ w1.heap.size ∧ k ≠ (w1.heap.size + 2)) 0 0 w' v l1.reverse ∧ w'.heap[(w1.heap.size + 1)]? = some (.loop rec) ∧ w'.heap[w1.heap.size]? = some (.deferred (some [])) ∧ w1.heap.size + 2 ≤ w'.heap.size) wq ((hB.keep hk1).keep kq) ((hG.keep hk1).keep kq) ⟨by omega, by omega, by omega⟩ hd ?_ ?_ ?_).mono ?_
    · intro w' k'
      exact ⟨_, fun k h => (by cases h), (hB1.keep kq).keep k', Mine.nil _ _ _ _ _ _, (k'.keep _ (Array.getElem?_eq_some_iff.1 hrl).1 id).trans hrl, (k'.keep _ (Array.getElem?_eq_some_iff.1 hrd).1 id).trans hrd, by have := k'.size; omega⟩
    · rintro l1 wu wv ⟨v, hin, h2, h3, h4, h5, h6⟩ x
      have hxz := x.size
      exact ⟨v, hin, h2.ext x (fun h => by have h : _ = wq.heap.size := h; omega), h3.ext x (by intro k h1 h2; omega) (fun k hk h => by have h : _ = wq.heap.size := h; omega), (x.keep _ (Array.getElem?_eq_some_iff.1 h4).1 (fun h => by have h : _ = wq.heap.size := h; omega)).trans h4, (x.keep _ (Array.getElem?_eq_some_iff.1 h5).1 (fun h => by have h : _ = wq.heap.size := h; omega)).trans h5, by omega⟩
    · rintro y ys wu ⟨v, hin, h2, h3, h4, h5, h6⟩ hyd hyn hnd
      have hol : ys.length ≤ 1000 := by
        have := nodup_len hnd (ks := d.map (·.1)) hin
        rw [List.length_map] at this; omega
      refine YC.round (r := rec) (N := 13) h4 (by rw [hr5]; rfl) (by rw [hr5, hr4, fold1]; exact hrT.put 7 _ (by decide)) ?_
      rw [hr3, hr6, hr7]
      refine X.region ?_
      refine X.opw X.wN rfl (X.assign (v := .string _) rfl) ?_
      refine X.opsEnd ?_
      refine X.beginRound' (r := rec) h4 hr1 (fun wb hLb hxb hzb => ?_)
      have hxb' := hxb.size
      refine X.block ?_
      refine X.region ?_
      refine X.opw X.wN rfl (X.load1B Tryz.isAgg72 (h2.ext hxb (by intros; (try simp only []); omega)) rfl rfl) ?_
      refine X.opw X.wN rfl (X.move (v := .string _) rfl) ?_
      refine X.opE X.wN rfl (X.litKF KS_flat (K := KS) (xs := [Operand.tmp 9]) (vs := [.string y]) (ys := [y]) Tryz.underlying72 Tryz.sizeOf9 Tryz.zeroValue9 rfl rfl rfl rfl rfl (repsS_ y (hsz y hyd))) ?_
      rintro _ w2 ⟨rfl, hs2, hB2, hk2, hz2⟩
      refine X.opE X.wN rfl (X.appE (K := KS) (S := fun k => w.heap.size ≤ k ∧ k ≠ w.heap.size ∧ k ≠ (w1.heap.size + 1) ∧ k ≠ w1.heap.size ∧ k ≠ (w1.heap.size + 2)) KS_flat Tryz.underlying72 ERs_ rfl rfl ((h3.ext hxb (by intros; (try simp only []); omega) (by intros; (try simp only []); omega)).keep hk2) hs2 (by (try simp only [List.length_reverse, List.length_append, List.length_cons, List.length_nil, List.length_take, List.length_drop, List.length_map, List.length_range]); omega) (by intros; (try simp only [] at *); omega)) ?_
      rintro v3 w3 ⟨hM3, hx3⟩
      have hx3' := hx3.size
      have q4 := hM3.slF KS_flat 0 (fun _ _ => Nat.zero_le _)
      obtain ⟨A4, c4, rfl, hc4, hs4⟩ := q4
      refine X.opE X.wN rfl (X.storeE Tryz.sizeOf72 (((h2.ext hxb (by intros; (try simp only []); omega)).keep hk2).ext hx3 (by intros; (try simp only []); omega)) rfl rfl rfl rfl) ?_
      rintro _ w5 ⟨hB5, hx5, hz5⟩
      refine X.opsEnd ?_
      refine X.inBlock ?_
      refine X.endRound' (r := rec) ((hx5.keep _ (by omega) (by (try simp only []); omega)).trans ((hx3.keep _ (by omega) (by (try simp only []); omega)).trans ((hk2.keep _ (by omega) id).trans hLb))) hr1 hr2 (fun we hLe hxe hze => ?_)
      exact ⟨rfl, (Ext.andThen (Ext.andThen (Ext.andThen (Ext.andThen (Ext.andThen (Ext.refl (fun k => w.heap.size ≤ k ∧ k ≠ (w1.heap.size + 2)) _) hxb (by intro k h1 h2; first | exact (h2 : False).elim | ((try simp only [] at *); omega))) hk2 (by intro k h1 h2; first | exact (h2 : False).elim | ((try simp only [] at *); omega))) hx3 (by intro k h1 h2; first | exact (h2 : False).elim | ((try simp only [] at *); omega))) hx5 (by intro k h1 h2; first | exact (h2 : False).elim | ((try simp only [] at *); omega))) hxe (by intro k h1 h2; first | exact (h2 : False).elim | ((try simp only [] at *); omega))), ⟨_, (fun k hk => (List.mem_cons.1 hk).elim (fun e => e ▸ hyd) (hin k)), (hB5.ext hxe (by intros; (try simp only []); omega)), (by rw [List.reverse_cons]; exact ((hM3.ext hx5 (by intros; (try simp only []); omega) (by intros; (try simp only []); omega)).ext hxe (by intros; (try simp only []); omega) (by intros; (try simp only []); omega))), hLe, ((hxe.keep _ (by omega) (by (try simp only []); omega)).trans ((hx5.keep _ (by omega) (by (try simp only []); omega)).trans ((hx3.keep _ (by omega) (by (try simp only []); omega)).trans ((hk2.keep _ (by omega) id).trans ((hxb.keep _ (by omega) (by (try simp only []); omega)).trans h5))))), by omega⟩⟩
    · rintro v wz ⟨_, ⟨l, hl1, hl2, v', _, h2, h3, h4, h5, h6⟩, hxq⟩
      exact ⟨⟨rec, h4, by rw [hr1]; simp, hr2⟩, v', l, h2, hl1, hl2, h3, h5, ((hk1).trans kq).step hxq (by intro k hk; (try simp only [] at hk); omega), h6⟩
  · rintro wz we ⟨v, l, h2, hl1, hl2, h3, h5, hxq, h6⟩ hxe hze
    obtain ⟨hdf, _⟩ := Array.getElem?_eq_some_iff.1 h5
    refine X.inBlock ?_
    refine X.seq ?_
    refine X.region ?_
    refine X.opw X.wN rfl (X.load1B Tryz.isAgg72 (h2.ext hxe (by intros; (try simp only []); omega)) rfl rfl) ?_
    refine X.opw X.wN rfl (X.assign rfl) ?_
    refine X.opsEnd ?_
    refine X.ret_unw ?_
    refine X.collected' (by simp) ((hxe.keep _ (by omega) (by (try simp only []); omega)).trans h5) (fun wf hxf hzf => ?_)
    refine X.unwT1 Tryz.func80 Tryz.results80 rfl ?_
    exact ⟨l.reverse, ((List.reverse_perm l).nodup_iff).2 hl1, fun k => by rw [List.mem_reverse]; exact hl2 k, (((h3.ext hxe (by intros; (try simp only []); omega) (by intros; (try simp only []); omega)).ext hxf (by intros; (try simp only []); omega) (by intros; (try simp only []); omega))).mono (fun k hk hs => ⟨hs.1, hk⟩), (Ext.andThen (Ext.andThen hxq hxe (by intro k h1 h2; first | exact (h2 : False).elim | (exfalso; (try simp only [] at *); omega))) hxf (by intro k h1 h2; first | exact (h2 : False).elim | (exfalso; (try simp only [] at *); omega)))⟩
end Go.Proofs.YtcdebnppbnmmgaaGreat

namespace Go.Proofs.YtcdebnppbnmmgaaGreat
open Go Go.Proofs.YtcdebnppbnmmgaaGreat.X
set_option linter.unusedVariables false
set_option linter.unusedSimpArgs false
set_option maxHeartbeats 4000000 in
set_option maxRecDepth 100000 in
theorem collect_c {d : DIR} (w : World) (bl bd : Nat) (hB : Blk w bl [.map (some bd)] 67) (hG : MPD w bd d) (hd : d.length ≤ 1000) (hsz : ∀ y, y ∈ d.map (·.1) → y.size ≤ 9223372036854775807) : Ret Tryz.prog 75 #[.func (.func 77) #[] #[ptrV bl]] w fun v w' => ∃ l : List ByteArray, l.Nodup ∧ (∀ k, k ∈ l ↔ k ∈ d.map (·.1)) ∧ Mine KS 9 (fun k => w.heap.size ≤ k ∧ k < w'.heap.size) 0 0 w' v l ∧ Keep w w' := by
  refine X.enter Tryz.func75 rfl Tryz.ntmps75 rfl ?_
  refine X.seq ?_
  refine X.region ?_
  refine X.opw X.wN rfl (X.assign rfl) ?_
  refine X.opsEnd ?_
  refine X.seq ?_
  refine X.region ?_
  refine X.opw X.wN rfl (X.move rfl) ?_
  refine X.opE X.wN rfl (X.callE (appendSeq_c _ bl bd hB hG hd hsz) Tryz.call80 rfl rfl) ?_
  rintro v1 w1 ⟨l, hl1, hl2, hM1, hk1⟩
  have hk1' := hk1.size
  refine X.opw X.wN rfl (X.assign rfl) ?_
  refine X.opsEnd ?_
  refine X.ret1 Tryz.func75 Tryz.results75 rfl ?_
  exact ⟨l, hl1, hl2, hM1, hk1⟩
theorem sortStrM_c {xs : List ByteArray} {e : TypeId} {S : Nat → Prop} {v : Value} (w : World) (h : Mine KS e S 0 0 w v xs) (hn : xs.length < 4611686018427387904) : RetN Tryz.prog 76 #[v] w fun r w' => r = .tuple #[] ∧ Mine KS e S 0 0 w' v (sortB xs) ∧ Ext S w w' := by
  obtain ⟨A, c, rfl, _⟩ := h.slice
  exact sortStr_c h hn
/-- Names in order: that order alone. -/
theorem sortB_perm {a b : List ByteArray} (h : a.Perm b) : sortB a = sortB b := by
  rw [sortB, sortB]
  congr 1
  have hp : (a.map fun s => s.data.toList).Perm (b.map fun s => s.data.toList) := h.map _
  have hs := fun l : List (List UInt8) => List.pairwise_mergeSort (le := fun x y : List UInt8 => decide (x ≤ y)) (by intro a b c; simp only [decide_eq_true_eq]; exact fun h1 h2 => List.le_trans h1 h2) (by intro a b; simp only [Bool.or_eq_true, decide_eq_true_eq]; exact List.le_total a b) l
  refine List.Perm.eq_of_pairwise (le := fun x y => decide (x ≤ y) = true) ?_ (hs _) (hs _) (((List.mergeSort_perm _ _).trans hp).trans (List.mergeSort_perm _ _).symm)
  intro x y _ _ h1 h2
  exact List.le_antisymm (of_decide_eq_true h1) (of_decide_eq_true h2)
theorem keys_len {d : DIR} {l : List ByteArray} (h : l.Nodup) (hi : ∀ k, k ∈ l ↔ k ∈ d.map (·.1)) (hn : (d.map (·.1)).Nodup) : l.Perm (d.map (·.1)) := (List.perm_ext_iff_of_nodup h hn).2 hi
set_option maxHeartbeats 4000000 in
set_option maxRecDepth 100000 in
theorem sorted_c {d : DIR} (w : World) (bl bd : Nat) (hB : Blk w bl [.map (some bd)] 67) (hG : MPD w bd d) (hd : d.length ≤ 1000) (hsz : ∀ y, y ∈ d.map (·.1) → y.size ≤ 9223372036854775807) (hnd : (d.map (·.1)).Nodup) : Ret Tryz.prog 68 #[.func (.func 77) #[] #[ptrV bl]] w fun v w' => Mine KS 9 (fun k => w.heap.size ≤ k) 0 0 w' v (sortB (d.map (·.1))) ∧ Keep w w' := by
  refine X.enter Tryz.func68 rfl Tryz.ntmps68 rfl ?_
  refine X.seq ?_
  refine X.region ?_
  refine X.opw X.wN rfl (X.assign rfl) ?_
  refine X.opsEnd ?_
  refine X.seq ?_
  refine X.region ?_
  refine X.opw X.wN rfl (X.move rfl) ?_
  refine X.opE X.wN rfl (X.callE (collect_c _ bl bd hB hG hd hsz) Tryz.call75 rfl rfl) ?_
  rintro v1 w1 ⟨l, hl1, hl2, hM1, hk1⟩
  have hlp := keys_len hl1 hl2 hnd
  have hll := hlp.length_eq
  rw [List.length_map] at hll
  have hk1' := hk1.size
  refine X.opw X.wN rfl (X.assign rfl) ?_
  refine X.opsEnd ?_
  refine X.seq ?_
  refine X.region ?_
  refine X.opw X.wN rfl (X.move rfl) ?_
  refine X.opE X.wN rfl (X.callNE (sortStrM_c _ hM1 (by omega)) Tryz.call76 rfl rfl) ?_
  rintro _ w2 ⟨rfl, hMs, hx2⟩
  have hx2' := hx2.size
  refine X.opsEnd ?_
  refine X.seq ?_
  refine X.region ?_
  refine X.opw X.wN rfl (X.move rfl) ?_
  refine X.opw X.wN rfl (X.assign rfl) ?_
  refine X.opsEnd ?_
  refine X.ret1 Tryz.func68 Tryz.results68 rfl ?_
  rw [sortB_perm hlp] at hMs
  exact ⟨hMs.mono (fun k _ hk => hk.1), (hk1.step hx2 (by intros; (try simp only [] at *); omega))⟩
set_option maxHeartbeats 4000000 in
set_option maxRecDepth 100000 in
theorem keys_c (bd : Nat) (w : World) : Ret Tryz.prog 69 #[.map (some bd)] w fun r w' => r = .func (.func 77) #[] #[ptrV w.heap.size] ∧ Blk w' w.heap.size [.map (some bd)] 67 ∧ Keep w w' ∧ w'.heap.size = w.heap.size + 1 := by
  refine X.enter Tryz.func69 rfl Tryz.ntmps69 rfl ?_
  refine X.seq ?_
  refine X.region ?_
  refine X.opE X.wN rfl (X.boxE rfl rfl) ?_
  rintro _ w1 ⟨rfl, hB1, hk1, hz1⟩
  refine X.opw X.wN rfl (X.assign rfl) ?_
  refine X.opsEnd ?_
  refine X.seq ?_
  refine X.region ?_
  refine X.opw X.wN rfl (X.mkFunc rfl) ?_
  refine X.opw X.wN rfl (X.assign rfl) ?_
  refine X.opsEnd ?_
  refine X.ret1 Tryz.func69 Tryz.results69 rfl ?_
  exact ⟨rfl, hB1, hk1, by omega⟩
set_option maxHeartbeats 4000000 in
set_option maxRecDepth 100000 in
theorem Names_c {col : Nat → Nat} {b bf bd bx bl : Nat} {A : Option Addr} {n c : Nat} {pt : List Nat} {s0 : DS} (w : World) (h : DkB col w b bf bd bx bl A n c pt s0) (hok : s0.Ok) : Ret Tryz.prog 34 #[ptrV b] w fun r w' => Mine KS 9 (fun k => w.heap.size ≤ k) 0 0 w' r (sortB (s0.dir.map (·.1))) ∧ Keep w w' := by
  have hnd := hok.nd
  have hdl := hok.few
  have hszd : ∀ y, y ∈ s0.dir.map (·.1) → y.size ≤ 9223372036854775807 := fun y hy => by
    obtain ⟨p, hp, rfl⟩ := List.mem_map.1 hy
    have := (hok.dir p hp).2.2; omega
  refine X.enter Tryz.func34 rfl Tryz.ntmps34 rfl ?_
  refine X.seq ?_
  refine X.region ?_
  refine X.opw X.wN rfl (X.assign rfl) ?_
  refine X.opsEnd ?_
  refine X.seq ?_
  refine X.seq ?_
  refine X.region ?_
  refine X.opw X.wN rfl (X.move rfl) ?_
  refine X.opE X.wN rfl (X.callE (is_c _ h.B) Tryz.call32 rfl rfl) ?_
  rintro _ w1 ⟨rfl, hk1⟩
  have hk1' := hk1.size
  refine X.opw X.wN rfl (X.not_ rfl) ?_
  refine X.opsEnd ?_
  refine X.condF rfl ?_
  refine X.skip ?_
  refine X.seq ?_
  refine X.region ?_
  refine X.opw X.wN rfl (X.move rfl) ?_
  refine X.opw X.wN rfl (X.nilCk rfl) ?_
  refine X.opw X.wN rfl (X.fldB (j := 3) Tryz.underlying71 rfl rfl Tryz.sizeOf67 rfl) ?_
  refine X.opw X.wN rfl (X.load1B Tryz.isAgg67 (h.B.keep hk1) rfl rfl) ?_
  refine X.opE X.wN rfl (X.callE (keys_c _ _) Tryz.call69 rfl rfl) ?_
  rintro _ w2 ⟨rfl, hBk, hk2, hkz⟩
  have hk2' := hk2.size
  refine X.opE X.wN rfl (X.callE (sorted_c _ _ _ hBk (h.G.keep (hk1.trans hk2)) (by omega) hszd hnd) Tryz.call68 rfl rfl) ?_
  rintro v3 w3 ⟨hM3, hk3⟩
  have hk3' := hk3.size
  refine X.opw X.wN rfl (X.assign rfl) ?_
  refine X.opsEnd ?_
  refine X.ret1 Tryz.func34 Tryz.results34 rfl ?_
  exact ⟨hM3.mono (fun k _ hk => by (try simp only [] at *); omega), ((hk1.trans hk2).trans hk3)⟩
set_option maxHeartbeats 4000000 in
set_option maxRecDepth 100000 in
theorem UsedR_c {col : Nat → Nat} {w : World} {b : Nat} {s : DS} (h : DkR col w b s) (hok : s.Ok) : Ret Tryz.prog 8 #[ptrV b] w fun r w' => r = .tuple #[.int .i64 (s.used : Int), .int .i64 s.rm] ∧ Keep w w' := by
  obtain ⟨bf, bd, bx, bl, A, n, c, pt, hD⟩ := id h
  have hB := hD.B
  refine X.enter Tryz.func8 rfl Tryz.ntmps8 rfl ?_
  refine X.seq ?_
  refine X.region ?_
  refine X.opw X.wN rfl (X.assign rfl) ?_
  refine X.opw X.wN rfl (X.assign rfl) ?_
  refine X.opsEnd ?_
  refine X.seq ?_
  refine X.seq ?_
  refine X.region ?_
  refine X.opw X.wN rfl (X.move rfl) ?_
  refine X.opE X.wN rfl (X.callE (is_c _ hB) Tryz.call32 rfl rfl) ?_
  rintro _ w1 ⟨rfl, hk1⟩
  have hk1' := hk1.size
  refine X.opw X.wN rfl (X.not_ rfl) ?_
  refine X.opsEnd ?_
  refine X.condF rfl ?_
  refine X.skip ?_
  refine X.seq ?_
  refine X.regionD (fun k => w.heap.size ≤ k) 7 (by kernel_rfl) (by kernel_rfl) (fun w2 hk2 hz2 => ?_)
  refine X.dTake 0 rfl (by kernel_rfl) (by kernel_rfl) (by kernel_rfl) (X.dwN rfl) (fun w' hk' => X.move rfl) ?_
  refine X.dTake 2 rfl (by kernel_rfl) (by kernel_rfl) (by kernel_rfl) (X.dwN rfl) (fun w' hk' => X.move rfl) ?_
  refine X.dTake 3 rfl (by kernel_rfl) (by kernel_rfl) (by kernel_rfl) (X.dwN rfl) (fun w' hk' => X.nilCk rfl) ?_
  refine X.dTake 4 rfl (by kernel_rfl) (by kernel_rfl) (by kernel_rfl) (X.dwN rfl) (fun w' hk' => X.fldB (j := 0) Tryz.underlying71 rfl rfl Tryz.sizeOf3 rfl) ?_
  refine X.dTake 5 rfl (by kernel_rfl) (by kernel_rfl) (by kernel_rfl) (X.dwN rfl) (fun w' hk' => X.load1B Tryz.isAgg3 (hB.keep ((hk1.trans hk2).step hk' (by intros; (try simp only [] at *); omega))) rfl rfl) ?_
  refine X.dE (i := 1) (by kernel_rfl) rfl (X.dwN rfl) (X.callE (usedR_c (h.keep (hk1.trans hk2)) hok) Tryz.call33 rfl rfl) (by rintro _ w3 ⟨rfl, hk3⟩ _; exact hk3.mono (fun _ _ h => h.elim)) ?_
  rintro _ w3 ⟨rfl, hk3⟩
  have hk3' := hk3.size
  refine X.dTake 6 rfl (by kernel_rfl) (by kernel_rfl) (by kernel_rfl) (X.dwN rfl) (fun w' hk' => X.assign (v := .int .i64 _) rfl) ?_
  refine X.dStep (i := 7) (by kernel_rfl) rfl (X.dwN rfl) (X.assign (v := .int .i64 _) rfl) (fun h => absurd h (by decide)) ?_
  refine X.dEnd (by kernel_rfl) ?_
  refine X.ret2 (v1 := (.int .i64 _)) (v2 := (.int .i64 _)) Tryz.func8 Tryz.results8 rfl rfl ?_
  exact ⟨rfl, ((hk1.trans hk2).trans hk3)⟩
theorem namesR_c {col : Nat → Nat} {w : World} {b : Nat} {s : DS} (h : DkR col w b s) (hok : s.Ok) : Ret Tryz.prog 34 #[ptrV b] w fun r w' => Mine KS 9 (fun k => w.heap.size ≤ k) 0 0 w' r (sortB (s.dir.map (·.1))) ∧ Keep w w' := let ⟨_, _, _, _, _, _, _, _, h⟩ := h; Names_c w h hok
end Go.Proofs.YtcdebnppbnmmgaaGreat

namespace Go.Proofs.YtcdebnppbnmmgaaGreat
open Go Go.Proofs.YtcdebnppbnmmgaaGreat.X
set_option linter.unusedVariables false
set_option linter.unusedSimpArgs false
theorem sortB_sorted {l : DIR} (h : Srtd l) : sortB (l.map (·.1)) = l.map (·.1) := by
  rw [sortB, List.mergeSort_of_pairwise, List.map_map]
  · exact (List.map_congr_left (fun x _ => by cases x; simp)).trans (List.map_id _)
  · rw [List.pairwise_map, List.pairwise_map]
    exact h.imp fun {p q} hpq => by
      rw [sless_lt] at hpq
      exact decide_eq_true (List.le_of_lt (of_decide_eq_true hpq))
theorem Tie.names {s : DS} {t : RS} (h : Tie s t) (hok : s.Ok) : sortB (s.dir.map (·.1)) = t.dir.map (·.1) := by
  rw [← sortB_perm (keys_perm h.dir hok.nd), sortB_sorted h.dir.2]
/-- Both disks in memory, apart, alike; g: below it there is nothing of them; m: at most so many files and changes; r: the room. -/
structure Tw (g : Nat) (ca cb : Nat → Nat) (w : World) (b x m : Nat) (r : Int) (s : DS) (t : RS) : Prop where
  D : DkR ca w b s
  X : RkR cb w x t
  ap : ∀ q, ca q ≠ 0 → cb q = 0
  inv : s.Inv
  fit : s.Fits r
  tie : Tie s t
  sz : s.size ≤ m
  lo : ∀ q, q < g → ca q = 0 ∧ cb q = 0
  gw : g ≤ w.heap.size
/-- The program's disk has done an act, the reference's not yet. -/
structure Md (g : Nat) (ca ca' cb : Nat → Nat) (w w1 : World) (b x m : Nat) (r : Int) (s s1 : DS) (t : RS) : Prop where
  T : Tw g ca cb w b x m r s t
  D : DkR ca' w1 b s1
  st : Stp ca w ca' w1
section
variable {g b x m m' : Nat} {ca cb ca' cb' : Nat → Nat} {w w1 w2 : World} {r : Int} {s s1 : DS} {t t1 : RS}
theorem Tw.ok (h : Tw g ca cb w b x m r s t) (hm : m ≤ 40000) : t.Ok := h.tie.ok h.inv.ok (by have := h.sz; omega)
theorem Tw.ext (h : Tw g ca cb w b x m r s t) {T : Nat → Prop} (y : Ext T w w1) (hT : ∀ q, ca q ≠ 0 ∨ cb q ≠ 0 → ¬ T q) : Tw g ca cb w1 b x m r s t :=
  ⟨h.D.ext y fun q hq => hT q (.inl hq), h.X.ext y fun q hq => hT q (.inr hq), h.ap, h.inv, h.fit, h.tie, h.sz, h.lo, Nat.le_trans h.gw y.size⟩
theorem Tw.keep (h : Tw g ca cb w b x m r s t) (y : Keep w w1) : Tw g ca cb w1 b x m r s t := h.ext y fun _ _ h => h
theorem Md.X (h : Md g ca ca' cb w w1 b x m r s s1 t) : RkR cb w1 x t := h.T.X.ext h.st.ext fun q hq e => hq (h.T.ap q e)
theorem Md.next (h : Md g ca ca' cb w w1 b x m r s s1 t) (h2 : RkR cb' w2 x t1) (s2 : Stp cb w1 cb' w2) (hi : s1.Inv) (hf : s1.Fits r) (ht : Tie s1 t1) (hz : s1.size ≤ m') : Tw g ca' cb' w2 b x m' r s1 t1 := by
  have hap : ∀ q, ca' q ≠ 0 → cb q = 0 := fun q hq => by
    rcases Nat.lt_or_ge q w.heap.size with hl | hl
    · exact h.T.ap q (by rw [← h.st.1 q hl]; exact hq)
    · exact Classical.byContradiction fun e => by have := h.T.X.lt q e; omega
  refine ⟨h.D.ext s2.2 fun q hq e => e (hap q hq), h2, fun q hq => (s2.1 q (h.D.lt q hq)).trans (hap q hq), hi, hf, ht, hz, fun q hq => ?_, ?_⟩
  · have hg := h.T.gw
    have h1 := h.st.2.size
    exact ⟨(h.st.1 q (by omega)).trans (h.T.lo q hq).1, (s2.1 q (by omega)).trans (h.T.lo q hq).2⟩
  · exact Nat.le_trans h.T.gw (Nat.le_trans h.st.2.size s2.2.size)
theorem size_create (nm : ByteArray) : (s.create nm).2.size ≤ s.size + 2 := by
  rw [DS.create]
  repeat' split
  all_goals (simp [DS.size, DS.note, DS.did]; try omega)
theorem size_delete (nm : ByteArray) : (s.delete nm).2.size ≤ s.size + 2 := by
  rw [DS.delete]
  repeat' split
  all_goals (simp [DS.size, DS.note, DS.did]; try omega)
theorem size_rename (nm to : ByteArray) : (s.rename nm to).2.size ≤ s.size + 2 := by
  rw [DS.rename]
  repeat' split
  all_goals (simp [DS.size, DS.note, DS.did]; try omega)
theorem size_syncDir : s.syncDir.2.size ≤ s.size + 2 := by
  rw [DS.syncDir]
  repeat' split
  all_goals (simp [DS.size, DS.did]; try omega)
theorem size_fuse (n : Int) : (s.fuse n).2.size ≤ s.size + 2 := by
  rw [DS.fuse]
  repeat' split
  all_goals (simp [DS.size]; try omega)
theorem size_sync (nm : ByteArray) : (s.sync nm).2.size ≤ s.size + 2 := by
  rw [DS.sync]
  repeat' split
  all_goals (simp [DS.size, DS.did]; try omega)
theorem size_write (nm : ByteArray) (a : Int) (y : List UInt8) : (s.write nm a y).2.size ≤ s.size + 2 := by
  rw [DS.write]
  repeat' split
  all_goals (simp [DS.size, DS.did]; try omega)
theorem size_rot (nm : ByteArray) (a : Int) (k : UInt8) : (s.rot nm a k).2.size ≤ s.size + 2 := by
  rw [DS.rot]
  repeat' split
  all_goals (simp [DS.size]; try omega)
theorem createT1_c (h : Tw g ca cb w b x m r s t) (hm : m ≤ 40000) (nm : ByteArray) (hn : nm.size ≤ 9223372036854775807) : Ret Tryz.prog 12 #[ptrV b, .string nm] w fun v w1 => v = .int .i64 (s.create nm).1 ∧ ∃ ca', Md g ca ca' cb w w1 b x m r s (s.create nm).2 t ∧ Ext (fun q => ca q ≠ 0) w w1 := by
  have hok := h.inv.ok
  have hsz := h.sz
  exact (createR_c h.D hok nm hn (by omega)).mono fun v w1 ⟨h1, ca', h2, h3⟩ => ⟨h1, ca', ⟨h, h2, h3⟩, h3.2⟩
theorem createT2_c (nm : ByteArray) (h : Md g ca ca' cb w w1 b x m r s (s.create nm).2 t) (hm : m ≤ 40000)  : Ret Tryz.prog 17 #[ptrV x, .string nm] w1 fun v w2 => v = .int .i64 (s.create nm).1 ∧ ∃ cb', Tw g ca' cb' w2 b x (m + 2) r (s.create nm).2 (t.create nm).2 ∧ (∀ q, q < w1.heap.size → cb' q = cb q) ∧ Ext (fun q => cb q ≠ 0) w1 w2 := by
  have hok := h.T.inv.ok
  have hsz := h.T.sz
  have htk := h.T.ok hm
  have hsf : s.fs.length + s.chs.length ≤ 40000 := by have h0 : s.fs.length + s.chs.length = s.size := rfl; omega
  have hl1 := h.T.tie.len
  have hl2 : t.chs.length = s.chs.length := by rw [h.T.tie.chs]
  obtain ⟨e1, e2⟩ := h.T.tie.create hok nm
  obtain ⟨vF, vD, vX, vC, pt, hB⟩ := h.X
  exact (RCreate_c nm _ hB htk ⟨by omega, by omega⟩).mono fun v w2 ⟨h1, cb', h2, h3⟩ => ⟨h1.trans (by rw [e1]), cb', h.next h2 h3 (h.T.inv.create nm) (h.T.fit.create h.T.inv nm) e2 (by have := size_create (s := s) nm; omega), h3.1, h3.2⟩
theorem deleteT1_c (h : Tw g ca cb w b x m r s t) (hm : m ≤ 40000) (nm : ByteArray) (hn : nm.size ≤ 9223372036854775807) : Ret Tryz.prog 23 #[ptrV b, .string nm] w fun v w1 => v = .int .i64 (s.delete nm).1 ∧ ∃ ca', Md g ca ca' cb w w1 b x m r s (s.delete nm).2 t ∧ Ext (fun q => ca q ≠ 0) w w1 := by
  have hok := h.inv.ok
  have hsz := h.sz
  exact (deleteR_c h.D hok nm hn (by omega)).mono fun v w1 ⟨h1, ca', h2, h3⟩ => ⟨h1, ca', ⟨h, h2, h3⟩, h3.2⟩
theorem deleteT2_c (nm : ByteArray) (h : Md g ca ca' cb w w1 b x m r s (s.delete nm).2 t) (hm : m ≤ 40000)  : Ret Tryz.prog 24 #[ptrV x, .string nm] w1 fun v w2 => v = .int .i64 (s.delete nm).1 ∧ ∃ cb', Tw g ca' cb' w2 b x (m + 2) r (s.delete nm).2 (t.delete nm).2 ∧ (∀ q, q < w1.heap.size → cb' q = cb q) ∧ Ext (fun q => cb q ≠ 0) w1 w2 := by
  have hok := h.T.inv.ok
  have hsz := h.T.sz
  have htk := h.T.ok hm
  have hsf : s.fs.length + s.chs.length ≤ 40000 := by have h0 : s.fs.length + s.chs.length = s.size := rfl; omega
  have hl1 := h.T.tie.len
  have hl2 : t.chs.length = s.chs.length := by rw [h.T.tie.chs]
  obtain ⟨e1, e2⟩ := h.T.tie.delete hok nm
  obtain ⟨vF, vD, vX, vC, pt, hB⟩ := h.X
  exact (RDelete_c nm _ hB htk).mono fun v w2 ⟨h1, cb', h2, h3⟩ => ⟨h1.trans (by rw [e1]), cb', h.next h2 h3 (h.T.inv.delete nm) (h.T.fit.delete h.T.inv nm) e2 (by have := size_delete (s := s) nm; omega), h3.1, h3.2⟩
theorem renameT1_c (h : Tw g ca cb w b x m r s t) (hm : m ≤ 40000) (nm : ByteArray) (to : ByteArray) (hn : to.size ≤ 9223372036854775807) : Ret Tryz.prog 21 #[ptrV b, .string nm, .string to] w fun v w1 => v = .int .i64 (s.rename nm to).1 ∧ ∃ ca', Md g ca ca' cb w w1 b x m r s (s.rename nm to).2 t ∧ Ext (fun q => ca q ≠ 0) w w1 := by
  have hok := h.inv.ok
  have hsz := h.sz
  exact (renameR_c h.D hok nm to hn (by omega)).mono fun v w1 ⟨h1, ca', h2, h3⟩ => ⟨h1, ca', ⟨h, h2, h3⟩, h3.2⟩
theorem renameT2_c (nm : ByteArray) (to : ByteArray) (h : Md g ca ca' cb w w1 b x m r s (s.rename nm to).2 t) (hm : m ≤ 40000)  : Ret Tryz.prog 22 #[ptrV x, .string nm, .string to] w1 fun v w2 => v = .int .i64 (s.rename nm to).1 ∧ ∃ cb', Tw g ca' cb' w2 b x (m + 2) r (s.rename nm to).2 (t.rename nm to).2 ∧ (∀ q, q < w1.heap.size → cb' q = cb q) ∧ Ext (fun q => cb q ≠ 0) w1 w2 := by
  have hok := h.T.inv.ok
  have hsz := h.T.sz
  have htk := h.T.ok hm
  have hsf : s.fs.length + s.chs.length ≤ 40000 := by have h0 : s.fs.length + s.chs.length = s.size := rfl; omega
  have hl1 := h.T.tie.len
  have hl2 : t.chs.length = s.chs.length := by rw [h.T.tie.chs]
  obtain ⟨e1, e2⟩ := h.T.tie.rename hok nm to
  obtain ⟨vF, vD, vX, vC, pt, hB⟩ := h.X
  exact (RRename_c nm to _ hB htk).mono fun v w2 ⟨h1, cb', h2, h3⟩ => ⟨h1.trans (by rw [e1]), cb', h.next h2 h3 (h.T.inv.rename nm to) (h.T.fit.rename h.T.inv nm to) e2 (by have := size_rename (s := s) nm to; omega), h3.1, h3.2⟩
theorem syncDirT1_c (h : Tw g ca cb w b x m r s t) (hm : m ≤ 40000)   : Ret Tryz.prog 25 #[ptrV b] w fun v w1 => v = .int .i64 (s.syncDir).1 ∧ ∃ ca', Md g ca ca' cb w w1 b x m r s (s.syncDir).2 t ∧ Ext (fun q => ca q ≠ 0) w w1 := by
  have hok := h.inv.ok
  have hsz := h.sz
  exact (syncDirR_c h.D hok ).mono fun v w1 ⟨h1, ca', h2, h3⟩ => ⟨h1, ca', ⟨h, h2, h3⟩, h3.2⟩
theorem syncDirT2_c  (h : Md g ca ca' cb w w1 b x m r s (s.syncDir).2 t) (hm : m ≤ 40000)  : Ret Tryz.prog 26 #[ptrV x] w1 fun v w2 => v = .int .i64 (s.syncDir).1 ∧ ∃ cb', Tw g ca' cb' w2 b x (m + 2) r (s.syncDir).2 (t.syncDir).2 ∧ (∀ q, q < w1.heap.size → cb' q = cb q) ∧ Ext (fun q => cb q ≠ 0) w1 w2 := by
  have hok := h.T.inv.ok
  have hsz := h.T.sz
  have htk := h.T.ok hm
  have hsf : s.fs.length + s.chs.length ≤ 40000 := by have h0 : s.fs.length + s.chs.length = s.size := rfl; omega
  have hl1 := h.T.tie.len
  have hl2 : t.chs.length = s.chs.length := by rw [h.T.tie.chs]
  obtain ⟨e1, e2⟩ := h.T.tie.syncDir hok
  obtain ⟨vF, vD, vX, vC, pt, hB⟩ := h.X
  exact (RSyncDir_c _ hB htk).mono fun v w2 ⟨h1, cb', h2, h3⟩ => ⟨h1.trans (by rw [e1]), cb', h.next h2 h3 (h.T.inv.syncDir ) (h.T.fit.syncDir ) e2 (by have := size_syncDir (s := s) ; omega), h3.1, h3.2⟩
theorem fuseT1_c (h : Tw g ca cb w b x m r s t) (hm : m ≤ 40000) (n : Int)  : Ret Tryz.prog 27 #[ptrV b, .int .i64 n] w fun v w1 => v = .int .i64 (s.fuse n).1 ∧ ∃ ca', Md g ca ca' cb w w1 b x m r s (s.fuse n).2 t ∧ Ext (fun q => ca q ≠ 0) w w1 := by
  have hok := h.inv.ok
  have hsz := h.sz
  exact (fuseR_c h.D hok n).mono fun v w1 ⟨h1, ca', h2, h3⟩ => ⟨h1, ca', ⟨h, h2, h3⟩, h3.2⟩
theorem fuseT2_c (n : Int) (h : Md g ca ca' cb w w1 b x m r s (s.fuse n).2 t) (hm : m ≤ 40000)  : Ret Tryz.prog 28 #[ptrV x, .int .i64 n] w1 fun v w2 => v = .int .i64 (s.fuse n).1 ∧ ∃ cb', Tw g ca' cb' w2 b x (m + 2) r (s.fuse n).2 (t.fuse n).2 ∧ (∀ q, q < w1.heap.size → cb' q = cb q) ∧ Ext (fun q => cb q ≠ 0) w1 w2 := by
  have hok := h.T.inv.ok
  have hsz := h.T.sz
  have htk := h.T.ok hm
  have hsf : s.fs.length + s.chs.length ≤ 40000 := by have h0 : s.fs.length + s.chs.length = s.size := rfl; omega
  have hl1 := h.T.tie.len
  have hl2 : t.chs.length = s.chs.length := by rw [h.T.tie.chs]
  obtain ⟨e1, e2⟩ := h.T.tie.fuse n
  obtain ⟨vF, vD, vX, vC, pt, hB⟩ := h.X
  exact (RFuse_c n _ hB).mono fun v w2 ⟨h1, cb', h2, h3⟩ => ⟨h1.trans (by rw [e1]), cb', h.next h2 h3 (h.T.inv.fuse n) (h.T.fit.fuse n) e2 (by have := size_fuse (s := s) n; omega), h3.1, h3.2⟩
theorem syncT1_c (h : Tw g ca cb w b x m r s t) (hm : m ≤ 40000) (nm : ByteArray) (hn : nm.size ≤ 9223372036854775807) : Ret Tryz.prog 19 #[ptrV b, .string nm] w fun v w1 => v = .int .i64 (s.sync nm).1 ∧ ∃ ca', Md g ca ca' cb w w1 b x m r s (s.sync nm).2 t ∧ Ext (fun q => ca q ≠ 0) w w1 := by
  have hok := h.inv.ok
  have hsz := h.sz
  exact (syncR_c h.D hok nm hn).mono fun v w1 ⟨h1, ca', h2, h3⟩ => ⟨h1, ca', ⟨h, h2, h3⟩, h3.2⟩
theorem syncT2_c (nm : ByteArray) (h : Md g ca ca' cb w w1 b x m r s (s.sync nm).2 t) (hm : m ≤ 40000)  : Ret Tryz.prog 20 #[ptrV x, .string nm] w1 fun v w2 => v = .int .i64 (s.sync nm).1 ∧ ∃ cb', Tw g ca' cb' w2 b x (m + 2) r (s.sync nm).2 (t.sync nm).2 ∧ (∀ q, q < w1.heap.size → cb' q = cb q) ∧ Ext (fun q => cb q ≠ 0) w1 w2 := by
  have hok := h.T.inv.ok
  have hsz := h.T.sz
  have htk := h.T.ok hm
  have hsf : s.fs.length + s.chs.length ≤ 40000 := by have h0 : s.fs.length + s.chs.length = s.size := rfl; omega
  have hl1 := h.T.tie.len
  have hl2 : t.chs.length = s.chs.length := by rw [h.T.tie.chs]
  obtain ⟨e1, e2⟩ := h.T.tie.sync hok nm
  obtain ⟨vF, vD, vX, vC, pt, hB⟩ := h.X
  exact (RSync_c nm _ hB htk).mono fun v w2 ⟨h1, cb', h2, h3⟩ => ⟨h1.trans (by rw [e1]), cb', h.next h2 h3 (h.T.inv.sync nm) (h.T.fit.sync h.T.inv nm) e2 (by have := size_sync (s := s) nm; omega), h3.1, h3.2⟩
theorem rotT1_c (h : Tw g ca cb w b x m r s t) (hm : m ≤ 40000) (nm : ByteArray) (a : Int) (k : UInt8) (ha : -9223372036854775808 ≤ a ∧ a ≤ 9223372036854775807) : Ret Tryz.prog 29 #[ptrV b, .string nm, .int .i64 a, .int .u8 (k.toNat : Int)] w fun v w1 => v = .int .i64 (s.rot nm a k).1 ∧ ∃ ca', Md g ca ca' cb w w1 b x m r s (s.rot nm a k).2 t ∧ Ext (fun q => ca q ≠ 0) w w1 := by
  have hok := h.inv.ok
  have hsz := h.sz
  exact (rotR_c h.D hok nm a k ha).mono fun v w1 ⟨h1, ca', h2, h3⟩ => ⟨h1, ca', ⟨h, h2, h3⟩, h3.2⟩
theorem rotT2_c (nm : ByteArray) (a : Int) (k : UInt8) (h : Md g ca ca' cb w w1 b x m r s (s.rot nm a k).2 t) (hm : m ≤ 40000) (ha : -9223372036854775808 ≤ a ∧ a ≤ 9223372036854775807) : Ret Tryz.prog 30 #[ptrV x, .string nm, .int .i64 a, .int .u8 (k.toNat : Int)] w1 fun v w2 => v = .int .i64 (s.rot nm a k).1 ∧ ∃ cb', Tw g ca' cb' w2 b x (m + 2) r (s.rot nm a k).2 (t.rot nm a k).2 ∧ (∀ q, q < w1.heap.size → cb' q = cb q) ∧ Ext (fun q => cb q ≠ 0) w1 w2 := by
  have hok := h.T.inv.ok
  have hsz := h.T.sz
  have htk := h.T.ok hm
  have hsf : s.fs.length + s.chs.length ≤ 40000 := by have h0 : s.fs.length + s.chs.length = s.size := rfl; omega
  have hl1 := h.T.tie.len
  have hl2 : t.chs.length = s.chs.length := by rw [h.T.tie.chs]
  obtain ⟨e1, e2⟩ := h.T.tie.rot hok nm a k
  obtain ⟨vF, vD, vX, vC, pt, hB⟩ := h.X
  exact (RRot_c nm a k _ hB htk ha).mono fun v w2 ⟨h1, cb', h2, h3⟩ => ⟨h1.trans (by rw [e1]), cb', h.next h2 h3 (h.T.inv.rot nm a k) (h.T.fit.rot h.T.inv nm a k) e2 (by have := size_rot (s := s) nm a k; omega), h3.1, h3.2⟩
theorem writeT1_c {Ay : Option Addr} {m2 cy : Nat} (h : Tw g ca cb w b x m r s t) (hm : m ≤ 40000) (nm : ByteArray) (a : Int) (y : List UInt8) (ha : -9223372036854775808 ≤ a ∧ a ≤ 9223372036854775807) (hy : Sl KB 0 g w Ay m2 y) (hym : m2 ≤ 1000000000) : Ret Tryz.prog 13 #[ptrV b, .string nm, .int .i64 a, .slice Ay m2 cy] w fun v w1 => v = .int .i64 (s.write nm a y).1 ∧ ∃ ca', Md g ca ca' cb w w1 b x m r s (s.write nm a y).2 t ∧ Ext (fun q => ca q ≠ 0) w w1 := by
  have hok := h.inv.ok
  have hsz := h.sz
  exact (writeR_c h.D hok nm a ha hy (fun q _ hq => ⟨(h.lo q hq).1, by have := h.gw; omega⟩) hym).mono fun v w1 ⟨h1, ca', h2, h3⟩ => ⟨h1, ca', ⟨h, h2, h3⟩, h3.2⟩
theorem writeT2_c {Ay : Option Addr} {m2 cy : Nat} (nm : ByteArray) (a : Int) (y : List UInt8) (h : Md g ca ca' cb w w1 b x m r s (s.write nm a y).2 t) (hm : m ≤ 40000) (ha : -9223372036854775808 ≤ a ∧ a ≤ 9223372036854775807) (hy : Sl KB 0 g w1 Ay m2 y) (hym : m2 ≤ 1000000000) : Ret Tryz.prog 18 #[ptrV x, .string nm, .int .i64 a, .slice Ay m2 cy] w1 fun v w2 => v = .int .i64 (s.write nm a y).1 ∧ ∃ cb', Tw g ca' cb' w2 b x (m + 2) r (s.write nm a y).2 (t.write nm a y).2 ∧ (∀ q, q < w1.heap.size → cb' q = cb q) ∧ Ext (fun q => cb q ≠ 0) w1 w2 := by
  have hok := h.T.inv.ok
  have hsz := h.T.sz
  have htk := h.T.ok hm
  have hsf : s.fs.length + s.chs.length ≤ 40000 := by have h0 : s.fs.length + s.chs.length = s.size := rfl; omega
  have hl1 := h.T.tie.len
  have hl2 : t.chs.length = s.chs.length := by rw [h.T.tie.chs]
  obtain ⟨e1, e2⟩ := h.T.tie.write hok nm a y
  obtain ⟨vF, vD, vX, vC, pt, hB⟩ := h.X
  exact (RWrite_c nm a _ hB htk ha hy (fun q _ hq => ⟨(h.T.lo q hq).2, by have := h.T.gw; have := h.st.2.size; omega⟩) hym).mono fun v w2 ⟨h1, cb', h2, h3⟩ => ⟨h1.trans (by rw [e1]), cb', h.next h2 h3 (h.T.inv.write nm a y) (h.T.fit.write h.T.inv nm a y) e2 (by have := size_write (s := s) nm a y; omega), h3.1, h3.2⟩
end
end Go.Proofs.YtcdebnppbnmmgaaGreat
