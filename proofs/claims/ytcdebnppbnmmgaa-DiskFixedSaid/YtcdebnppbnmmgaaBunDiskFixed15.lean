/- Texts that the proof of DiskFixed stands on, part 15. -/
import Derived.Test.YtcdebnppbnmmgaaProg
import Derived.Test.YtcdebnppbnmmgaaBunDiskFixed14

namespace Go.Proofs.Ytcdebnppbnmmgaa
open Go Go.Proofs.Ytcdebnppbnmmgaa.X
set_option linter.unusedVariables false
set_option linter.unusedSimpArgs false
def Hid (p : Prop) : Prop := p
-- f14 "(*pedigree/disk.Disk).Lose" params [26, 25] results [26, 27] -> [(ResultVar.tmp 4), (ResultVar.tmp 5)]
set_option maxHeartbeats 4000000 in
set_option maxRecDepth 100000 in
theorem Lose_c {col : Nat → Nat} {b bf bd bx bl : Nat} {A : Option Addr} {n c : Nat} {pt : List Nat} {s0 : DS} {lo hi q1 r1 q2 r2 : Nat} {Aq1 Aq2 : Option Addr} {kp sz : List Bool} (dir : Int) (w : World) (h : DkB col w b bf bd bx bl A n c pt s0) (hok : s0.Ok) (hsz : s0.size ≤ 50000) (hdir : -9223372036854775808 ≤ dir ∧ dir ≤ 9223372036854775807) (hS1 : Sl KBo lo hi w Aq1 q1 kp) (hS2 : Sl KBo lo hi w Aq2 q2 sz) (hhi : hi ≤ w.heap.size) (hinj : ∀ i, ((tns (s0.chs.take i) s0.fx).map (·.2)).Nodup) :
    Ret Try.prog 14 #[ptrV b, .agg #[.int .i64 dir, .slice Aq1 q1 r1, .slice Aq2 q2 r2]] w fun r w' => Keep w w' ∧ ((dir < 0 ∨ (s0.chs.length : Int) < dir) ∧ r = .tuple #[.pointer none, .int .i64 5] ∨ ¬ (dir < 0 ∨ (s0.chs.length : Int) < dir) ∧ ∃ bo co, r = .tuple #[ptrV bo, .int .i64 0] ∧ DkR co w' bo (s0.lose dir.toNat kp sz) ∧ ∀ q, co q ≠ 0 → w.heap.size ≤ q) := by
  have hbl := h.B.lt
  have hfl := h.F.lt
  have hdl := h.G.lt
  have hxl := h.X.lt
  have hll := h.L.lt
  have hcb := h.cb
  have hcf := h.cf
  have hcd := h.cd
  have hcx := h.cx
  have hcl := h.cl
  obtain ⟨z1, z2, z3, z4, z5, z6, z7, z8, z9, z10⟩ := h.ne
  have hlt := h.lt
  have hok1 := hok.lf
  have hok2 := hok.few
  have hsz2 := hsz
  rw [DS.size] at hsz2
  have hchl := h.M.len
  have hnn := near_len hok
  have hcapc := (h.M.rd KCh_flat).1
  clear z1 z2 z3 z4 z5 z6 z7 z8 z9 z10
  refine X.enter Try.func14 rfl Try.ntmps14 rfl ?_
  refine X.seq ?_
  refine X.region ?_
  refine X.opE X.wN rfl (X.boxE rfl rfl) ?_
  rintro _ w1 ⟨rfl, hB1, hk1, hz1⟩
  refine X.opw X.wN rfl (X.assign rfl) ?_
  refine X.opw X.wN rfl (X.assign rfl) ?_
  refine X.opsEnd ?_
  refine X.seq ?_
  refine X.seq ?_
  refine X.region ?_
  refine X.opw X.wN rfl (X.move rfl) ?_
  refine X.opE X.wN rfl (X.callE (is_c _ (h.B.keep hk1)) Try.call36 rfl rfl) ?_
  rintro _ w2 ⟨rfl, hk2⟩
  have hk2' := hk2.size
  refine X.opw X.wN rfl (X.not_ rfl) ?_
  refine X.opsEnd ?_
  refine X.condF rfl ?_
  refine X.skip ?_
  refine X.seq ?_
  refine X.seq ?_
  refine X.regionD (fun _ => False) 13 (by kernel_rfl) (by kernel_rfl) (fun w3 hk3 hz3 => ?_)
  refine X.dTake 0 rfl (by kernel_rfl) (by kernel_rfl) (by kernel_rfl) (X.dwN rfl) (fun w' hk' => X.fldB (j := 0) Try.underlying25 rfl rfl Try.sizeOf3 rfl) ?_
  refine X.dTake 1 rfl (by kernel_rfl) (by kernel_rfl) (by kernel_rfl) (X.dwN rfl) (fun w' hk' => X.load1B Try.isAgg3 (hB1.keep ((hk2.trans hk3).trans hk')) rfl rfl) ?_
  refine X.dTake 2 rfl (by kernel_rfl) (by kernel_rfl) (by kernel_rfl) (X.dwN rfl) (fun w' hk' => X.lss rfl rfl) ?_
  refine X.dTake 3 rfl (by kernel_rfl) (by kernel_rfl) (by kernel_rfl) (X.dwN rfl) (fun w' hk' => X.move (v := .bool _) rfl) ?_
  refine X.dFork 27 rfl (fun h27 => ?_) (fun h27 => ?_)
  · have h27 := of_decide_eq_true h27
    refine X.dTakeS 4 rfl (by kernel_rfl) (by kernel_rfl) (by kernel_rfl) rfl rfl rfl rfl ?_
    refine X.dTakeS 5 rfl (by kernel_rfl) (by kernel_rfl) (by kernel_rfl) rfl rfl rfl rfl ?_
    refine X.dSkip (i := 6) (by kernel_rfl) rfl rfl rfl rfl rfl ?_
    refine X.dSkip (i := 7) (by kernel_rfl) rfl rfl rfl rfl rfl ?_
    refine X.dSkip (i := 8) (by kernel_rfl) rfl rfl rfl rfl rfl ?_
    refine X.dSkip (i := 9) (by kernel_rfl) rfl rfl rfl rfl rfl ?_
    refine X.dSkip (i := 10) (by kernel_rfl) rfl rfl rfl rfl rfl ?_
    refine X.dSkip (i := 11) (by kernel_rfl) rfl rfl rfl rfl rfl ?_
    refine X.dTake 12 rfl (by kernel_rfl) (by kernel_rfl) (by kernel_rfl) (X.dwN rfl) (fun w' hk' => X.pickT (v := .bool true) rfl rfl) ?_
    refine X.dEnd (by kernel_rfl) ?_
    refine X.condT rfl ?_
    refine X.seq ?_
    refine X.region ?_
    refine X.opw X.wN rfl (X.assign rfl) ?_
    refine X.opw X.wN rfl (X.assign rfl) ?_
    refine X.opsEnd ?_
    refine X.ret2 (v2 := (.int .i64 _)) Try.func14 Try.results14 rfl rfl ?_
    exact ⟨((hk1.trans hk2).trans hk3), .inl ⟨.inl h27, rfl⟩⟩
  · have h27 := of_decide_eq_false h27
    obtain ⟨dn, rfl⟩ := Int.eq_ofNat_of_zero_le (show 0 ≤ dir by omega)
    refine X.dTake 4 rfl (by kernel_rfl) (by kernel_rfl) (by kernel_rfl) (X.dwG rfl rfl rfl) (fun w' hk' => X.fldB (j := 0) Try.underlying25 rfl rfl Try.sizeOf3 rfl) ?_
    refine X.dTake 5 rfl (by kernel_rfl) (by kernel_rfl) (by kernel_rfl) (X.dwG rfl rfl rfl) (fun w' hk' => X.load1B Try.isAgg3 (hB1.keep ((hk2.trans hk3).trans hk')) rfl rfl) ?_
    refine X.dTake 6 rfl (by kernel_rfl) (by kernel_rfl) (by kernel_rfl) (X.dwG rfl rfl rfl) (fun w' hk' => X.move rfl) ?_
    refine X.dTake 7 rfl (by kernel_rfl) (by kernel_rfl) (by kernel_rfl) (X.dwG rfl rfl rfl) (fun w' hk' => X.nilCk rfl) ?_
    refine X.dTake 8 rfl (by kernel_rfl) (by kernel_rfl) (by kernel_rfl) (X.dwG rfl rfl rfl) (fun w' hk' => X.fldB (j := 5) Try.underlying60 rfl rfl Try.sizeOf57 rfl) ?_
    refine X.dTake 9 rfl (by kernel_rfl) (by kernel_rfl) (by kernel_rfl) (X.dwG rfl rfl rfl) (fun w' hk' => X.load1B Try.isAgg57 (h.B.keep (((hk1.trans hk2).trans hk3).trans hk')) rfl rfl) ?_
    refine X.dTake 10 rfl (by kernel_rfl) (by kernel_rfl) (by kernel_rfl) (X.dwG rfl rfl rfl) (fun w' hk' => X.lenSl Try.underlying57 rfl) ?_
    refine X.dTake 11 rfl (by kernel_rfl) (by kernel_rfl) (by kernel_rfl) (X.dwG rfl rfl rfl) (fun w' hk' => X.gtr rfl rfl) ?_
    refine X.dTake 12 rfl (by kernel_rfl) (by kernel_rfl) (by kernel_rfl) (X.dwN rfl) (fun w' hk' => X.pickF (v := .bool _) rfl rfl) ?_
    refine X.dEnd (by kernel_rfl) ?_
    refine X.condB rfl (fun h35 => ?_) (fun h35 => ?_)
    · have h35 := of_decide_eq_true h35
      refine X.seq ?_
      refine X.region ?_
      refine X.opw X.wN rfl (X.assign rfl) ?_
      refine X.opw X.wN rfl (X.assign rfl) ?_
      refine X.opsEnd ?_
      refine X.ret2 (v2 := (.int .i64 _)) Try.func14 Try.results14 rfl rfl ?_
      exact ⟨((hk1.trans hk2).trans hk3), .inl ⟨.inr (by omega), rfl⟩⟩
    · have h35 := of_decide_eq_false h35
      refine X.skip ?_
      refine X.seq ?_
      refine X.region ?_
      refine X.opw X.wN rfl (X.move rfl) ?_
      refine X.opw X.wN rfl (X.nilCk rfl) ?_
      refine X.opw X.wN rfl (X.fldB (j := 4) Try.underlying60 rfl rfl Try.sizeOf56 rfl) ?_
      refine X.opw X.wN rfl (X.load1B Try.isAgg56 (h.B.keep ((hk1.trans hk2).trans hk3)) rfl rfl) ?_
      refine X.opE X.wN rfl (X.callE (mapClone_c _ (h.X.keep ((hk1.trans hk2).trans hk3))) Try.call35 rfl rfl) ?_
      rintro _ w4 ⟨rfl, gD, hk4, hz4⟩
      refine X.opw X.wN rfl (X.assign rfl) ?_
      refine X.opsEnd ?_
      refine X.seq ?_
      refine X.seq ?_
      refine X.regionD (fun _ => False) 9 (by kernel_rfl) (by kernel_rfl) (fun w5 hk5 hz5 => ?_)
      refine X.dTake 0 rfl (by kernel_rfl) (by kernel_rfl) (by kernel_rfl) (X.dwN rfl) (fun w' hk' => X.move rfl) ?_
      refine X.dTake 1 rfl (by kernel_rfl) (by kernel_rfl) (by kernel_rfl) (X.dwN rfl) (fun w' hk' => X.nilCk rfl) ?_
      refine X.dTake 2 rfl (by kernel_rfl) (by kernel_rfl) (by kernel_rfl) (X.dwN rfl) (fun w' hk' => X.fldB (j := 5) Try.underlying60 rfl rfl Try.sizeOf57 rfl) ?_
      refine X.dTake 3 rfl (by kernel_rfl) (by kernel_rfl) (by kernel_rfl) (X.dwN rfl) (fun w' hk' => X.load1B Try.isAgg57 (h.B.keep (((((hk1.trans hk2).trans hk3).trans hk4).trans hk5).trans hk')) rfl rfl) ?_
      refine X.dTake 4 rfl (by kernel_rfl) (by kernel_rfl) (by kernel_rfl) (X.dwN rfl) (fun w' hk' => X.fldB (j := 0) Try.underlying25 rfl rfl Try.sizeOf3 rfl) ?_
      refine X.dTake 5 rfl (by kernel_rfl) (by kernel_rfl) (by kernel_rfl) (X.dwN rfl) (fun w' hk' => X.load1B Try.isAgg3 (hB1.keep ((((hk2.trans hk3).trans hk4).trans hk5).trans hk')) rfl rfl) ?_
      refine X.dTake 6 rfl (by kernel_rfl) (by kernel_rfl) (by kernel_rfl) (X.dwN rfl) (fun w' hk' => X.cutHr Try.underlying57 Try.sizeOf76 rfl rfl (by omega)) ?_
      refine X.dTake 7 rfl (by kernel_rfl) (by kernel_rfl) (by kernel_rfl) (X.dwN rfl) (fun w' hk' => X.lenSl (n := dn) Try.underlying57 rfl) ?_
      refine X.dTake 8 rfl (by kernel_rfl) (by kernel_rfl) (by kernel_rfl) (X.dwN rfl) (fun w' hk' => X.move rfl) ?_
      refine X.dEnd (by kernel_rfl) ?_
      refine X.block ?_
      -- LOOP live: 0=d, 3=c, 6=dir, 48, 49, 50*
      refine X.loopL (σ := Nat) (fun s => [(0, ptrV b), (3, ptrV w.heap.size), (6, .map (some w3.heap.size)), (48, .slice A dn c), (49, .int .i64 (dn : Int)), (50, .int .i64 (s : Int))]) (fun s w' => s ≤ dn ∧ MPD w' w3.heap.size (tns (s0.chs.take s) s0.fx) ∧ Blk w' w.heap.size [.int .i64 (dn : Int), .slice Aq1 q1 r1, .slice Aq2 q2 r2] 25 ∧ Keep w w') (fun s => dn - s) 0 ⟨rfl, rfl, rfl, rfl, rfl, rfl, trivial⟩ ⟨Nat.zero_le _, (gD.keep hk5), (hB1.keep (((hk2.trans hk3).trans hk4).trans hk5)), ((((hk1.trans hk2).trans hk3).trans hk4).trans hk5)⟩ ?_
      rintro i e wi ⟨hi, gDi, hBc, hki⟩ hback
      have hki' := hki.size
      have hCi : Sl KCh 0 w.heap.size wi A n s0.chs := (h.M.rd KCh_flat).2.keep hki
      have hgl := gDi.lt
      refine X.seq ?_
      refine X.region ?_
      refine X.opP X.wN rfl rfl (X.lss rfl rfl) (fun h51 => ?_) (fun h51 => ?_)
      · obtain ⟨x, hx⟩ := getN i hchl (by omega)
        have hxt : (s0.chs.take dn)[i]? = some x := by rw [List.getElem?_take, if_pos (by omega)]; exact hx
        refine X.opsEnd ?_
        refine X.seq ?_
        refine X.condT rfl ?_
        refine X.skip ?_
        refine X.seq ?_
        refine X.block ?_
        refine X.seq ?_
        refine X.region ?_
        refine X.opw X.wN rfl (X.idxS (hCi.take dn (by omega)) Try.underlying57 Try.sizeOf76 rfl rfl ⟨by omega, by omega⟩) ?_
        refine X.opw X.wN rfl (X.loadSN Try.isAgg76 Try.sizeOf76 (hCi.take dn (by omega)) hxt rfl (fun _ h => h.1) rfl) ?_
        refine X.opE X.wN rfl (X.allocE Try.zeroValue76 rfl) ?_
        rintro _ w6 ⟨rfl, hB6, hk6, hz6⟩
        refine X.opE X.wN rfl (X.storeNE Try.sizeOf76 hB6 rfl rfl rfl rfl (fun u hu => by simp at hu; rcases hu with rfl | rfl | rfl <;> rfl)) ?_
        rintro _ w7 ⟨hB7, hx7, hz7⟩
        refine X.opsEnd ?_
        refine X.region ?_
        refine X.opw X.wN rfl (X.move rfl) ?_
        refine X.opw X.wN rfl (X.loadNB Try.isAgg76 Try.sizeOf76 hB7 rfl rfl rfl) ?_
        refine X.opE X.wN rfl (X.callE (turn_c x _ (gDi.keep (hk6.step hx7 (by intros; (try simp only [] at *); omega)))) Try.call37 rfl rfl) ?_
        rintro _ w8 ⟨rfl, gDn, hx8⟩
        have hx8' := hx8.size
        refine X.opsEnd ?_
        refine X.inBlock ?_
        refine X.region ?_
        refine X.opw X.wN rfl (X.add (c := ((i + 1 : Nat) : Int)) rfl rfl (by rw [X.w_i64 (by omega)]; omega)) ?_
        refine X.opw X.wN rfl (X.move (v := .int .i64 _) rfl) ?_
        refine X.opsEnd ?_
        refine hback (i + 1) _ _ ⟨rfl, rfl, rfl, rfl, rfl, rfl, trivial⟩ ⟨by omega, by rw [tns_snoc hx]; exact gDn, ((hBc.keep (hk6.step hx7 (by intros; (try simp only [] at *); omega))).ext hx8 (by first | (intro hh; first | exact nn1 hh | exact nn2 hh | exact nn3 hh | exact nn4 hh | exact nn5 hh | exact nn6 hh | exact nn7 hh | exact nn8 hh | exact nn9 hh | exact nna hh | exact nnb hh | exact nnc hh | (rcases hh with hh | hh <;> first | exact nn1 hh | exact nn2 hh | exact nn3 hh | exact nn4 hh | exact nn5 hh | exact nn6 hh | exact nn7 hh | exact nn8 hh | exact nn9 hh | exact nna hh | exact nnb hh | exact nnc hh | omega) | omega) | (intro hh; have hh : _ = _ := hh; omega) | (intros; (try simp only [] at *); omega))), (((hki.trans hk6).step hx7 (by intros; (try simp only [] at *); omega)).step hx8 (by intros; (try simp only [] at *); omega))⟩ (by omega)
      · have gDd : MPD wi w3.heap.size (tns (s0.chs.take dn) s0.fx) := by
          have e9 : i = dn := by omega
          rw [e9] at gDi; exact gDi
        refine X.opsEnd ?_
        refine X.seq ?_
        refine X.condF rfl ?_
        refine X.exit rfl ?_
        refine X.seq ?_
        refine X.region ?_
        refine X.opw X.wN rfl (X.move rfl) ?_
        refine X.opw X.wN rfl (X.nilCk rfl) ?_
        refine X.opw X.wN rfl (X.fldB (j := 0) Try.underlying60 rfl rfl Try.sizeOf3 rfl) ?_
        refine X.opw X.wN rfl (X.load1B Try.isAgg3 (h.B.keep hki) rfl rfl) ?_
        refine X.opE X.wN rfl (X.callE (New_ok s0.rm _ hok.rm) Try.call6 rfl rfl) ?_
        rintro _ w9 ⟨bo, bfo, bdo, bxo, blo, co, rfl, hO, hco, hk9⟩
        have hk9' := hk9.size
        refine X.opw X.wN rfl (X.move rfl) ?_
        refine X.opw X.wN rfl (X.extr rfl rfl) ?_
        refine X.opw X.wN rfl (X.extr rfl rfl) ?_
        refine X.opw X.wN rfl (X.assign rfl) ?_
        refine X.opw X.wN rfl (X.assign (v := .int .i64 _) rfl) ?_
        refine X.opsEnd ?_
        refine X.seq ?_
        refine X.region ?_
        refine X.opE X.wN rfl (X.makeMapV (fun x : Int => Value.int .i64 x) (fun v : ByteArray => Value.string v)) ?_
        rintro _ w10 ⟨rfl, hG10, hk10, hz10⟩
        refine X.opw X.wN rfl (X.assign rfl) ?_
        refine X.opsEnd ?_
        refine X.seq ?_
        refine X.seq ?_
        refine X.region ?_
        refine X.opw X.wN rfl (X.move rfl) ?_
        refine X.opE X.wN rfl (X.rangeE (enc := (fun x : ByteArray => Value.string x)) Try.underlying56 (gDd.keep (hk9.trans hk10)) rfl) ?_
        rintro _ w11 ⟨rfl, hI11, hk11, hz11⟩
        refine X.opsEnd ?_
        refine X.block ?_
        -- LOOP live: 0=d, 3=c, 9=out, 11=names, 68
        have gO := ((hO.keep hk10).keep hk11)
        have hOl := hO.lt
        have hdn : ((tns (s0.chs.take dn) s0.fx).map (·.1)).Nodup := gDd.nd
        refine X.loopL (σ := List ByteArray × List (Int × ByteArray)) (fun s => [(0, ptrV b), (3, ptrV w.heap.size), (9, ptrV bo), (11, .map (some w9.heap.size)), (68, .pointer (some ⟨w10.heap.size, 0, none⟩))]) (fun s w' => It (fun x : ByteArray => Value.string x) w' w10.heap.size w3.heap.size (mv (fun v : Int => Value.int .i64 v) (tns (s0.chs.take dn) s0.fx)) s.1 ∧ MpV (fun x : Int => Value.int .i64 x) (fun v : ByteArray => Value.string v) w' w9.heap.size s.2 ∧ (∀ k nm, asc k s.2 = some nm ↔ nm ∈ s.1 ∧ (nm, k) ∈ (tns (s0.chs.take dn) s0.fx)) ∧ s.1.Nodup ∧ (∀ a, a ∈ s.1 → a ∈ (tns (s0.chs.take dn) s0.fx).map (·.1)) ∧ Blk w' w.heap.size [.int .i64 (dn : Int), .slice Aq1 q1 r1, .slice Aq2 q2 r2] 25 ∧ DkB co w' bo bfo bdo bxo blo none 0 0 [] (DS.mk0 s0.rm [] [] []) ∧ Keep w w') (fun s => (tns (s0.chs.take dn) s0.fx).length + 1 - s.1.length) ([], []) ⟨rfl, rfl, rfl, rfl, rfl, trivial⟩ ⟨hI11, (hG10.keep hk11), fun k nm => by simp [asc], List.nodup_nil, fun _ h => (by simp at h), (hBc.keep ((hk9.trans hk10).trans hk11)), gO, (((hki.trans hk9).trans hk10).trans hk11)⟩ ?_
        rintro ⟨ds, nl⟩ e wn ⟨hI, hG1, hnl, hnd, hin, hBc1, hO1, hkn⟩ hback
        dsimp only at hI hG1 hnl hnd hin ⊢
        have hkn' := hkn.size
        have hIl := hI.lt
        have hGl := hG1.lt
        have hO1l := hO1.lt
        refine X.seq ?_
        refine X.region ?_
        refine X.opE X.wN rfl (X.nextE hI rfl) ?_
        rintro _ w12 (⟨rfl, hall12, rfl⟩ | ⟨p12, hp12, hpn12, rfl, hI12, hx12, hz12⟩)
        · have hnl2 : ∀ k nm, asc k nl = some nm ↔ (nm, k) ∈ (tns (s0.chs.take dn) s0.fx) := fun k nm => by
            rw [hnl]
            exact ⟨fun h => h.2, fun h => ⟨hall12 (nm, .int .i64 k) (List.mem_map.2 ⟨(nm, k), h, rfl⟩), h⟩⟩
          refine X.opw X.wN rfl (X.extr rfl rfl) ?_
          refine X.opsEnd ?_
          refine X.seq ?_
          refine X.condF rfl ?_
          refine X.exit rfl ?_
          refine X.seq ?_
          refine X.regionD (fun _ => False) 9 (by kernel_rfl) (by kernel_rfl) (fun w13 hk13 hz13 => ?_)
          refine X.dTake 0 rfl (by kernel_rfl) (by kernel_rfl) (by kernel_rfl) (X.dwN rfl) (fun w' hk' => X.fldB (j := 1) Try.underlying25 rfl rfl Try.sizeOf23 rfl) ?_
          refine X.dTake 1 rfl (by kernel_rfl) (by kernel_rfl) (by kernel_rfl) (X.dwN rfl) (fun w' hk' => X.load1B Try.isAgg23 (hBc1.keep (hk13.trans hk')) rfl rfl) ?_
          refine X.dTake 2 rfl (by kernel_rfl) (by kernel_rfl) (by kernel_rfl) (X.dwN rfl) (fun w' hk' => X.buildB (vs := [(0, .slice Aq1 q1 r1)]) (cs := #[.slice Aq1 q1 r1, .int .i64 0]) rfl (by kernel_rfl)) ?_
          refine X.dTake 4 rfl (by kernel_rfl) (by kernel_rfl) (by kernel_rfl) (X.dwN rfl) (fun w' hk' => X.fldB (j := 2) Try.underlying25 rfl rfl Try.sizeOf23 rfl) ?_
          refine X.dTake 5 rfl (by kernel_rfl) (by kernel_rfl) (by kernel_rfl) (X.dwN rfl) (fun w' hk' => X.load1B Try.isAgg23 (hBc1.keep (hk13.trans hk')) rfl rfl) ?_
          refine X.dTake 6 rfl (by kernel_rfl) (by kernel_rfl) (by kernel_rfl) (X.dwN rfl) (fun w' hk' => X.buildB (vs := [(0, .slice Aq2 q2 r2)]) (cs := #[.slice Aq2 q2 r2, .int .i64 0]) rfl (by kernel_rfl)) ?_
          refine X.dTwo (i := 3) (j := 7) (by kernel_rfl) ?_ ?_
          · refine X.d1E (i := 3) rfl (X.dwN rfl) (X.boxE rfl rfl) (by rintro _ w14 ⟨rfl, hB14, hk14, hz14⟩ _; exact hk14.mono (fun _ _ h => h.elim)) ?_
            rintro _ w14 ⟨rfl, hB14, hk14, hz14⟩
            refine X.dTake 8 rfl (by kernel_rfl) (by kernel_rfl) (by kernel_rfl) (X.dwN rfl) (fun w' hk' => X.assign rfl) ?_
            refine X.dE (i := 7) (by kernel_rfl) rfl (X.dwN rfl) (X.boxE rfl rfl) (by rintro _ w15 ⟨rfl, hB15, hk15, hz15⟩ _; exact hk15.mono (fun _ _ h => h.elim)) ?_
            rintro _ w15 ⟨rfl, hB15, hk15, hz15⟩
            refine X.dStep (i := 9) (by kernel_rfl) rfl (X.dwN rfl) (X.assign rfl) (fun h => absurd h (by decide)) ?_
            refine X.dEnd (by kernel_rfl) ?_
            refine X.seq ?_
            refine X.seq ?_
            refine X.region ?_
            refine X.opw X.wN rfl (X.move rfl) ?_
            refine X.opE X.wN rfl (X.callE (near_c _ (h.keep (((hkn.trans hk13).trans hk14).trans hk15)) hok (by rw [DS.size]; omega)) Try.call38 rfl rfl) ?_
            rintro _ w16 ⟨An, cn, rfl, hcn, hMn, hk16⟩
            have hk16' := hk16.size
            refine X.opw X.wN rfl (X.lenSl Try.underlying92 rfl) ?_
            refine X.opw X.wN rfl (X.move rfl) ?_
            refine X.opsEnd ?_
            refine X.block ?_
            -- LOOP live: 0=d, 9=out, 11=names, 14=sec, 15=siz, 86, 87, 88*
            obtain ⟨_, _, e9, _, gNr0⟩ := hMn.slF KI_flat w15.heap.size (fun q hq => hq.1)
            injection e9 with e91 e92 e93
            subst e91 e93
            clear e92
            have hnnl : s0.near.length = s0.near.length := rfl
            have gOm := ((((hO1.keep hk13).keep hk14).keep hk15).keep hk16)
            have gNm := (hG1.keep (((hk13.trans hk14).trans hk15).trans hk16))
            have hz0 : ∀ q, w9.heap.size ≤ q → co q = 0 := fun q hq => Classical.byContradiction fun e => by have := hOl q e; omega
            refine X.loopL (σ := Nat × (List FILE × DIR)) (fun s => [(0, ptrV b), (9, ptrV bo), (11, .map (some w9.heap.size)), (14, ptrV w13.heap.size), (15, ptrV w14.heap.size), (86, .slice An s0.near.length cn), (87, .int .i64 (s0.near.length : Int)), (88, .int .i64 (s.1 : Int))]) (fun s w' => ∃ (co : Nat → Nat) (pt : List Nat), s.1 ≤ s0.near.length ∧ DkB co w' bo bfo bdo bxo blo none 0 0 pt (DS.mk0 s0.rm s.2.1 s.2.2 []) ∧ (∀ q, co q ≠ 0 → wi.heap.size ≤ q) ∧ co w9.heap.size = 0 ∧ co w13.heap.size = 0 ∧ co w14.heap.size = 0 ∧ (∀ q, w15.heap.size ≤ q → q < w16.heap.size → co q = 0) ∧ loseF s0 (tns (s0.chs.take dn) s0.fx) kp sz (s0.near.drop s.1) (looseL s0 (s0.near.take s.1)).1 (looseL s0 (s0.near.take s.1)).2 s.2 = s0.left dn kp sz ∧ Blk w' w13.heap.size (kpL Aq1 q1 r1 (((looseL s0 (s0.near.take s.1)).1 : Nat) : Int)) 91 ∧ Blk w' w14.heap.size (kpL Aq2 q2 r2 (((looseL s0 (s0.near.take s.1)).2 : Nat) : Int)) 91 ∧ MpV (fun x : Int => Value.int .i64 x) (fun v : ByteArray => Value.string v) w' w9.heap.size nl ∧ Sl KI w15.heap.size w16.heap.size w' An s0.near.length s0.near ∧ s.2.1.length ≤ s.1 ∧ w16.heap.size ≤ w'.heap.size ∧ Keep w w') (fun s => s0.near.length - s.1) (0, ([], [])) ⟨rfl, rfl, rfl, rfl, rfl, rfl, rfl, rfl, trivial⟩ ⟨co, [], Nat.zero_le _, gOm, hco, hz0 _ (by omega), hz0 _ (by omega), hz0 _ (by omega), fun q hq _ => hz0 q (by omega), rfl, (hB14.keep (hk15.trans hk16)), (hB15.keep hk16), gNm, gNr0, Nat.le_refl _, Nat.le_refl _, ((((hkn.trans hk13).trans hk14).trans hk15).trans hk16)⟩ ?_
            rintro ⟨i2, o⟩ e wm ⟨co2, pt2, hi2, hO, hco2, hcn1, hcs1, hcz1, hcr, hlf9, gBs, gBz, hGm, hSn, hol, hwn, hkm⟩ hback
            dsimp only at hi2 hO hlf9 gBs gBz hol ⊢
            have hkm' := hkm.size
            have hOl2 := hO.lt
            have o1 := hO.cb
            have o2 := hO.cf
            have o3 := hO.cd
            have p1 := hco2 bo (by omega)
            have p2 := hco2 bfo (by omega)
            have p3 := hco2 bdo (by omega)
            have hb1 := hO.B.lt
            have hb2 := hO.F.lt
            have hb3 := hO.G.lt
            have hb4 := gBs.lt
            have hb5 := gBz.lt
            have hb6 := hGm.lt
            have nn1 : Hid (bo ≠ w13.heap.size) := fun e => by rw [e] at o1; omega
            have nn2 : Hid (bo ≠ w14.heap.size) := fun e => by rw [e] at o1; omega
            have nn3 : Hid (bfo ≠ w13.heap.size) := fun e => by rw [e] at o2; omega
            have nn4 : Hid (bfo ≠ w14.heap.size) := fun e => by rw [e] at o2; omega
            have nn5 : Hid (bdo ≠ w13.heap.size) := fun e => by rw [e] at o3; omega
            have nn6 : Hid (bdo ≠ w14.heap.size) := fun e => by rw [e] at o3; omega
            have nn7 : Hid (bo ≠ bfo) := fun e => by rw [e] at o1; omega
            have nn8 : Hid (bo ≠ bdo) := fun e => by rw [e] at o1; omega
            have nn9 : Hid (bfo ≠ bdo) := fun e => by rw [e] at o2; omega
            have nna : Hid (bo ≠ w9.heap.size) := fun e => by rw [e] at o1; omega
            have nnb : Hid (bfo ≠ w9.heap.size) := fun e => by rw [e] at o2; omega
            have nnc : Hid (bdo ≠ w9.heap.size) := fun e => by rw [e] at o3; omega
            have hll := looseL_le hok (s0.near.take i2)
            have htl : (s0.near.take i2).length = i2 := by rw [List.length_take]; omega
            rw [htl] at hll
            refine X.seq ?_
            refine X.region ?_
            refine X.opP X.wN rfl rfl (X.lss rfl rfl) (fun h89 => ?_) (fun h89 => ?_)
            · obtain ⟨k, hxk⟩ := getN i2 hnnl (by omega)
              obtain ⟨hk0, hk1⟩ := near_ok hok k (List.mem_of_getElem? hxk)
              obtain ⟨pf, f, A1, n1, c1, A2, n2, c2, hfb, hpf, hff, hn1, hn2, hfl1, hpc, hBf, hM1, hM2⟩ := h.at_ hk0 hk1
              have hlf := hok.len hff
              have hfat := fat_at hff
              have hskl := sizeK_le hok hff sz (looseL s0 (s0.near.take i2)).2
              have hstep : looseL s0 (s0.near.take (i2 + 1)) = ((looseL s0 (s0.near.take i2)).1 + (s0.spots k).length, (looseL s0 (s0.near.take i2)).2 + cntK f) := by
                rw [take_at hxk, looseL_app, looseL, looseL, hfat]; simp [cntK]
              have hs1 : (looseL s0 (s0.near.take (i2 + 1))).1 = (looseL s0 (s0.near.take i2)).1 + (s0.spots k).length := by rw [hstep]
              have hs2 : (looseL s0 (s0.near.take (i2 + 1))).2 = (looseL s0 (s0.near.take i2)).2 + cntK (fat s0.fs k) := by rw [hstep, hfat]
              rw [← hfat] at hskl
              refine X.opsEnd ?_
              refine X.seq ?_
              refine X.condT rfl ?_
              refine X.skip ?_
              refine X.seq ?_
              refine X.block ?_
              refine X.seq ?_
              refine X.region ?_
              refine X.opw X.wN rfl (X.idxS hSn Try.underlying92 Try.sizeOf3 rfl rfl ⟨by omega, by omega⟩) ?_
              refine X.opw X.wN rfl (X.loadS Try.isAgg3 hSn hxk rfl (fun _ h => by rw [h.1]; rfl)) ?_
              refine X.opw X.wN rfl (X.assign (v := .int .i64 _) rfl) ?_
              refine X.opsEnd ?_
              refine X.seq ?_
              refine X.region ?_
              refine X.opw X.wN rfl (X.move rfl) ?_
              refine X.opw X.wN rfl (X.move (v := .int .i64 _) rfl) ?_
              refine X.opw X.wN rfl (X.move rfl) ?_
              refine X.opw X.wN rfl (X.move rfl) ?_
              refine X.opE X.wN rfl (X.callE (kept_c k (looseL s0 (s0.near.take i2)).1 (looseL s0 (s0.near.take i2)).2 _ (h.keep hkm) hok hk0 hk1 gBs gBz (hS1.keep hkm) (hS2.keep hkm) (.inr (by omega)) (.inr (by omega)) (by omega) (Classical.byContradiction fun e => by have := hlt _ e; omega) (Classical.byContradiction fun e => by have := hlt _ e; omega) (by omega) (by omega) (by omega)) Try.call39 rfl rfl) ?_
              rintro _ w17 ⟨Ak, rfl, hRk, kBs, kBz, hx17⟩
              have hx17' := hx17.size
              refine X.opw X.wN rfl (X.assign rfl) ?_
              refine X.opsEnd ?_
              refine X.seq ?_
              refine X.region ?_
              refine X.opw X.wN rfl (X.move rfl) ?_
              refine X.opw X.wN rfl (X.move (v := .int .i64 _) rfl) ?_
              refine X.opw X.wN rfl (X.lookupOkV (enc := fun x : Int => Value.int .i64 x) (venc := fun v : ByteArray => Value.string v) (z := ⟨#[]⟩) (a := k) Try.underlying88 (keyInt Try.underlying3) Try.zeroValue9 (hGm.ext hx17 (by first | (intro hh; first | exact nn1 hh | exact nn2 hh | exact nn3 hh | exact nn4 hh | exact nn5 hh | exact nn6 hh | exact nn7 hh | exact nn8 hh | exact nn9 hh | exact nna hh | exact nnb hh | exact nnc hh | (rcases hh with hh | hh <;> first | exact nn1 hh | exact nn2 hh | exact nn3 hh | exact nn4 hh | exact nn5 hh | exact nn6 hh | exact nn7 hh | exact nn8 hh | exact nn9 hh | exact nna hh | exact nnb hh | exact nnc hh | omega) | omega) | (intro hh; have hh : _ = _ := hh; omega) | (intros; (try simp only [] at *); omega))) rfl rfl) ?_
              refine X.opw X.wN rfl (X.move rfl) ?_
              refine X.opw X.wN rfl (X.extr rfl rfl) ?_
              refine X.opw X.wN rfl (X.extr rfl rfl) ?_
              refine X.opw X.wN rfl (X.assign (v := .string _) rfl) ?_
              refine X.opw X.wN rfl (X.assign (v := .bool _) rfl) ?_
              refine X.opsEnd ?_
              refine X.seq ?_
              refine X.seq ?_
              refine X.region ?_
              refine X.opw X.wN rfl (X.move (v := .bool _) rfl) ?_
              refine X.opw X.wN rfl (X.not_ rfl) ?_
              refine X.opsEnd ?_
              refine X.condB rfl (fun hc => ?_) (fun hc => ?_)
              · have hnn2 : nameOf (tns (s0.chs.take dn) s0.fx) k = none := by
                  cases hq : nameOf (tns (s0.chs.take dn) s0.fx) k with
                  | none => rfl
                  | some nm =>
                    have h5 := (hnl2 k nm).2 ((nameOf_some (hinj dn)).1 hq)
                    rw [h5] at hc; simp at hc
                refine X.exit rfl ?_
                refine X.region ?_
                refine X.opw X.wN rfl (X.add (c := ((i2 + 1 : Nat) : Int)) rfl rfl (by rw [X.w_i64 (by omega)]; omega)) ?_
                refine X.opw X.wN rfl (X.move (v := .int .i64 _) rfl) ?_
                refine X.opsEnd ?_
                refine hback (i2 + 1, o) _ _ ⟨rfl, rfl, rfl, rfl, rfl, rfl, rfl, rfl, trivial⟩ ⟨co2, pt2, by (dsimp only); omega, (hO.ext hx17 (by intro q g1 g2; rcases g2 with g2 | g2 <;> (subst g2; first | exact g1 hcs1 | exact g1 hcz1))), hco2, hcn1, hcs1, hcz1, hcr, by (dsimp only); rw [hs1, hs2]; rw [← hlf9, drop_cons hxk, loseF, hnn2], (by rw [hs1]; exact kBs), (by rw [hs2]; exact kBz), (hGm.ext hx17 (by first | (intro hh; first | exact nn1 hh | exact nn2 hh | exact nn3 hh | exact nn4 hh | exact nn5 hh | exact nn6 hh | exact nn7 hh | exact nn8 hh | exact nn9 hh | exact nna hh | exact nnb hh | exact nnc hh | (rcases hh with hh | hh <;> first | exact nn1 hh | exact nn2 hh | exact nn3 hh | exact nn4 hh | exact nn5 hh | exact nn6 hh | exact nn7 hh | exact nn8 hh | exact nn9 hh | exact nna hh | exact nnb hh | exact nnc hh | omega) | omega) | (intro hh; have hh : _ = _ := hh; omega) | (intros; (try simp only [] at *); omega))), (hSn.ext hx17 (by intro q g1 g2 g3; have g4 := hcr q g1 g2; first | omega | (have g3 : q = _ := g3; subst g3; omega) | (rcases g3 with g3 | g3 <;> first | omega | (subst g3; omega)))), by (dsimp only); omega, (by omega), (hkm.step hx17 (by intros; (try simp only [] at *); omega))⟩ (by (dsimp only); omega)
              · obtain ⟨nm, hnm⟩ : ∃ nm, asc k nl = some nm := by
                  cases hq : asc k nl with
                  | none => rw [hq] at hc; simp at hc
                  | some nm => exact ⟨nm, rfl⟩
                have hnn2 : nameOf (tns (s0.chs.take dn) s0.fx) k = some nm := (nameOf_some (hinj dn)).2 ((hnl2 k nm).1 hnm)
                rw [hnm, Option.getD_some]
                refine X.skip ?_
                refine X.seq ?_
                refine X.regionD (fun _ => False) 13 (by kernel_rfl) (by kernel_rfl) (fun w18 hk18 hz18 => ?_)
                refine X.dTake 0 rfl (by kernel_rfl) (by kernel_rfl) (by kernel_rfl) (X.dwN rfl) (fun w' hk' => X.move rfl) ?_
                refine X.dTake 1 rfl (by kernel_rfl) (by kernel_rfl) (by kernel_rfl) (X.dwN rfl) (fun w' hk' => X.nilCk rfl) ?_
                refine X.dTake 2 rfl (by kernel_rfl) (by kernel_rfl) (by kernel_rfl) (X.dwN rfl) (fun w' hk' => X.fldB (j := 1) Try.underlying60 rfl rfl Try.sizeOf55 rfl) ?_
                refine X.dTake 3 rfl (by kernel_rfl) (by kernel_rfl) (by kernel_rfl) (X.dwN rfl) (fun w' hk' => X.load1B Try.isAgg55 ((hO.B.ext hx17 (by first | (intro hh; first | exact nn1 hh | exact nn2 hh | exact nn3 hh | exact nn4 hh | exact nn5 hh | exact nn6 hh | exact nn7 hh | exact nn8 hh | exact nn9 hh | exact nna hh | exact nnb hh | exact nnc hh | (rcases hh with hh | hh <;> first | exact nn1 hh | exact nn2 hh | exact nn3 hh | exact nn4 hh | exact nn5 hh | exact nn6 hh | exact nn7 hh | exact nn8 hh | exact nn9 hh | exact nna hh | exact nnb hh | exact nnc hh | omega) | omega) | (intro hh; have hh : _ = _ := hh; omega) | (intros; (try simp only [] at *); omega))).keep (hk18.trans hk')) rfl rfl) ?_
                refine X.dTake 4 rfl (by kernel_rfl) (by kernel_rfl) (by kernel_rfl) (X.dwN rfl) (fun w' hk' => X.move rfl) ?_
                refine X.dTake 5 rfl (by kernel_rfl) (by kernel_rfl) (by kernel_rfl) (X.dwN rfl) (fun w' hk' => X.nilCk rfl) ?_
                refine X.dTake 6 rfl (by kernel_rfl) (by kernel_rfl) (by kernel_rfl) (X.dwN rfl) (fun w' hk' => X.fldB (j := 2) Try.underlying60 rfl rfl Try.sizeOf3 rfl) ?_
                refine X.dTake 7 rfl (by kernel_rfl) (by kernel_rfl) (by kernel_rfl) (X.dwN rfl) (fun w' hk' => X.load1B Try.isAgg3 ((hO.B.ext hx17 (by first | (intro hh; first | exact nn1 hh | exact nn2 hh | exact nn3 hh | exact nn4 hh | exact nn5 hh | exact nn6 hh | exact nn7 hh | exact nn8 hh | exact nn9 hh | exact nna hh | exact nnb hh | exact nnc hh | (rcases hh with hh | hh <;> first | exact nn1 hh | exact nn2 hh | exact nn3 hh | exact nn4 hh | exact nn5 hh | exact nn6 hh | exact nn7 hh | exact nn8 hh | exact nn9 hh | exact nna hh | exact nnb hh | exact nnc hh | omega) | omega) | (intro hh; have hh : _ = _ := hh; omega) | (intros; (try simp only [] at *); omega))).keep (hk18.trans hk')) rfl rfl) ?_
                refine X.dTake 8 rfl (by kernel_rfl) (by kernel_rfl) (by kernel_rfl) (X.dwN rfl) (fun w' hk' => X.move rfl) ?_
                refine X.dTake 9 rfl (by kernel_rfl) (by kernel_rfl) (by kernel_rfl) (X.dwN rfl) (fun w' hk' => X.move rfl) ?_
                refine X.dE (i := 10) (by kernel_rfl) rfl (X.dwN rfl) (X.callE (CloneB_c _ ((hRk.keep hk18).rd KB_flat).2 (by omega)) Try.call32 rfl rfl) (by rintro _ w19 ⟨A2c, c2c, rfl, hccc, hMcc, hk19⟩ _; exact hk19.mono (fun _ _ h => h.elim)) ?_
                rintro _ w19 ⟨A2c, c2c, rfl, hccc, hMcc, hk19⟩
                have hk19' := hk19.size
                refine X.dTake 11 rfl (by kernel_rfl) (by kernel_rfl) (by kernel_rfl) (X.dwN rfl) (fun w' hk' => X.buildB (vs := [(0, .slice Ak (sizeK sz (looseL s0 (s0.near.take i2)).2 (fat s0.fs k)) (sizeK sz (looseL s0 (s0.near.take i2)).2 (fat s0.fs k))), (1, .slice A2c (sizeK sz (looseL s0 (s0.near.take i2)).2 (fat s0.fs k)) c2c)]) (cs := #[.slice Ak (sizeK sz (looseL s0 (s0.near.take i2)).2 (fat s0.fs k)) (sizeK sz (looseL s0 (s0.near.take i2)).2 (fat s0.fs k)), .slice A2c (sizeK sz (looseL s0 (s0.near.take i2)).2 (fat s0.fs k)) c2c]) rfl (by kernel_rfl)) ?_
                refine X.dE (i := 12) (by kernel_rfl) rfl (X.dwN rfl) (X.boxE rfl rfl) (by rintro _ w20 ⟨rfl, hB20, hk20, hz20⟩ _; exact hk20.mono (fun _ _ h => h.elim)) ?_
                rintro _ w20 ⟨rfl, hB20, hk20, hz20⟩
                refine X.dE (i := 13) (by kernel_rfl) rfl (X.dwN rfl) (X.updateV (enc := fun x : Int => Value.int .i64 x) (venc := fun v : Value => v) (a := (o.1.length : Int)) (v := ptrV w19.heap.size) Try.underlying55 (keyInt Try.underlying3) ((((hO.F.ext hx17 (by first | (intro hh; first | exact nn1 hh | exact nn2 hh | exact nn3 hh | exact nn4 hh | exact nn5 hh | exact nn6 hh | exact nn7 hh | exact nn8 hh | exact nn9 hh | exact nna hh | exact nnb hh | exact nnc hh | (rcases hh with hh | hh <;> first | exact nn1 hh | exact nn2 hh | exact nn3 hh | exact nn4 hh | exact nn5 hh | exact nn6 hh | exact nn7 hh | exact nn8 hh | exact nn9 hh | exact nna hh | exact nnb hh | exact nnc hh | omega) | omega) | (intro hh; have hh : _ = _ := hh; omega) | (intros; (try simp only [] at *); omega))).keep hk18).keep hk19).keep hk20) rfl rfl rfl) (fun _ _ _ h => absurd h (by decide)) ?_
                rintro _ w21 ⟨hGf, hxf, hzf⟩
                refine X.dEnd (by kernel_rfl) ?_
                refine X.seq ?_
                refine X.regionD (fun _ => False) 9 (by kernel_rfl) (by kernel_rfl) (fun w22 hk22 hz22 => ?_)
                refine X.dTake 0 rfl (by kernel_rfl) (by kernel_rfl) (by kernel_rfl) (X.dwN rfl) (fun w' hk' => X.move rfl) ?_
                refine X.dTake 1 rfl (by kernel_rfl) (by kernel_rfl) (by kernel_rfl) (X.dwN rfl) (fun w' hk' => X.nilCk rfl) ?_
                refine X.dTake 2 rfl (by kernel_rfl) (by kernel_rfl) (by kernel_rfl) (X.dwN rfl) (fun w' hk' => X.fldB (j := 3) Try.underlying60 rfl rfl Try.sizeOf56 rfl) ?_
                refine X.dTake 3 rfl (by kernel_rfl) (by kernel_rfl) (by kernel_rfl) (X.dwN rfl) (fun w' hk' => X.load1B Try.isAgg56 ((((hO.B.ext hx17 (by first | (intro hh; first | exact nn1 hh | exact nn2 hh | exact nn3 hh | exact nn4 hh | exact nn5 hh | exact nn6 hh | exact nn7 hh | exact nn8 hh | exact nn9 hh | exact nna hh | exact nnb hh | exact nnc hh | (rcases hh with hh | hh <;> first | exact nn1 hh | exact nn2 hh | exact nn3 hh | exact nn4 hh | exact nn5 hh | exact nn6 hh | exact nn7 hh | exact nn8 hh | exact nn9 hh | exact nna hh | exact nnb hh | exact nnc hh | omega) | omega) | (intro hh; have hh : _ = _ := hh; omega) | (intros; (try simp only [] at *); omega))).keep ((hk18.trans hk19).trans hk20)).ext hxf (by first | (intro hh; first | exact nn1 hh | exact nn2 hh | exact nn3 hh | exact nn4 hh | exact nn5 hh | exact nn6 hh | exact nn7 hh | exact nn8 hh | exact nn9 hh | exact nna hh | exact nnb hh | exact nnc hh | (rcases hh with hh | hh <;> first | exact nn1 hh | exact nn2 hh | exact nn3 hh | exact nn4 hh | exact nn5 hh | exact nn6 hh | exact nn7 hh | exact nn8 hh | exact nn9 hh | exact nna hh | exact nnb hh | exact nnc hh | omega) | omega) | (intro hh; have hh : _ = _ := hh; omega) | (intros; (try simp only [] at *); omega))).keep (hk22.trans hk')) rfl rfl) ?_
                refine X.dTake 4 rfl (by kernel_rfl) (by kernel_rfl) (by kernel_rfl) (X.dwN rfl) (fun w' hk' => X.move (v := .string _) rfl) ?_
                refine X.dTake 5 rfl (by kernel_rfl) (by kernel_rfl) (by kernel_rfl) (X.dwN rfl) (fun w' hk' => X.move rfl) ?_
                refine X.dTake 6 rfl (by kernel_rfl) (by kernel_rfl) (by kernel_rfl) (X.dwN rfl) (fun w' hk' => X.nilCk rfl) ?_
                refine X.dTake 7 rfl (by kernel_rfl) (by kernel_rfl) (by kernel_rfl) (X.dwN rfl) (fun w' hk' => X.fldB (j := 2) Try.underlying60 rfl rfl Try.sizeOf3 rfl) ?_
                refine X.dTake 8 rfl (by kernel_rfl) (by kernel_rfl) (by kernel_rfl) (X.dwN rfl) (fun w' hk' => X.load1B Try.isAgg3 ((((hO.B.ext hx17 (by first | (intro hh; first | exact nn1 hh | exact nn2 hh | exact nn3 hh | exact nn4 hh | exact nn5 hh | exact nn6 hh | exact nn7 hh | exact nn8 hh | exact nn9 hh | exact nna hh | exact nnb hh | exact nnc hh | (rcases hh with hh | hh <;> first | exact nn1 hh | exact nn2 hh | exact nn3 hh | exact nn4 hh | exact nn5 hh | exact nn6 hh | exact nn7 hh | exact nn8 hh | exact nn9 hh | exact nna hh | exact nnb hh | exact nnc hh | omega) | omega) | (intro hh; have hh : _ = _ := hh; omega) | (intros; (try simp only [] at *); omega))).keep ((hk18.trans hk19).trans hk20)).ext hxf (by first | (intro hh; first | exact nn1 hh | exact nn2 hh | exact nn3 hh | exact nn4 hh | exact nn5 hh | exact nn6 hh | exact nn7 hh | exact nn8 hh | exact nn9 hh | exact nna hh | exact nnb hh | exact nnc hh | (rcases hh with hh | hh <;> first | exact nn1 hh | exact nn2 hh | exact nn3 hh | exact nn4 hh | exact nn5 hh | exact nn6 hh | exact nn7 hh | exact nn8 hh | exact nn9 hh | exact nna hh | exact nnb hh | exact nnc hh | omega) | omega) | (intro hh; have hh : _ = _ := hh; omega) | (intros; (try simp only [] at *); omega))).keep (hk22.trans hk')) rfl rfl) ?_
                refine X.dE (i := 9) (by kernel_rfl) rfl (X.dwN rfl) (X.updateV (enc := fun x : ByteArray => Value.string x) (venc := fun v : Int => Value.int .i64 v) (a := nm) (v := (o.1.length : Int)) Try.underlying56 (keyStr Try.underlying9) ((((((hO.G.ext hx17 (by first | (intro hh; first | exact nn1 hh | exact nn2 hh | exact nn3 hh | exact nn4 hh | exact nn5 hh | exact nn6 hh | exact nn7 hh | exact nn8 hh | exact nn9 hh | exact nna hh | exact nnb hh | exact nnc hh | (rcases hh with hh | hh <;> first | exact nn1 hh | exact nn2 hh | exact nn3 hh | exact nn4 hh | exact nn5 hh | exact nn6 hh | exact nn7 hh | exact nn8 hh | exact nn9 hh | exact nna hh | exact nnb hh | exact nnc hh | omega) | omega) | (intro hh; have hh : _ = _ := hh; omega) | (intros; (try simp only [] at *); omega))).keep hk18).keep hk19).keep hk20).ext hxf (by first | (intro hh; first | exact nn1 hh | exact nn2 hh | exact nn3 hh | exact nn4 hh | exact nn5 hh | exact nn6 hh | exact nn7 hh | exact nn8 hh | exact nn9 hh | exact nna hh | exact nnb hh | exact nnc hh | (rcases hh with hh | hh <;> first | exact nn1 hh | exact nn2 hh | exact nn3 hh | exact nn4 hh | exact nn5 hh | exact nn6 hh | exact nn7 hh | exact nn8 hh | exact nn9 hh | exact nna hh | exact nnb hh | exact nnc hh | omega) | omega) | (intro hh; have hh : _ = _ := hh; omega) | (intros; (try simp only [] at *); omega))).keep hk22) rfl rfl rfl) (fun _ _ _ h => absurd h (by decide)) ?_
                rintro _ w23 ⟨hGd, hxd, hzd⟩
                refine X.dEnd (by kernel_rfl) ?_
                refine X.region ?_
                refine X.opw X.wN rfl (X.move rfl) ?_
                refine X.opw X.wN rfl (X.nilCk rfl) ?_
                refine X.opw X.wN rfl (X.fldB (j := 2) Try.underlying60 rfl rfl Try.sizeOf3 rfl) ?_
                refine X.opw X.wN rfl (X.load1B Try.isAgg3 (((((hO.B.ext hx17 (by first | (intro hh; first | exact nn1 hh | exact nn2 hh | exact nn3 hh | exact nn4 hh | exact nn5 hh | exact nn6 hh | exact nn7 hh | exact nn8 hh | exact nn9 hh | exact nna hh | exact nnb hh | exact nnc hh | (rcases hh with hh | hh <;> first | exact nn1 hh | exact nn2 hh | exact nn3 hh | exact nn4 hh | exact nn5 hh | exact nn6 hh | exact nn7 hh | exact nn8 hh | exact nn9 hh | exact nna hh | exact nnb hh | exact nnc hh | omega) | omega) | (intro hh; have hh : _ = _ := hh; omega) | (intros; (try simp only [] at *); omega))).keep ((hk18.trans hk19).trans hk20)).ext hxf (by first | (intro hh; first | exact nn1 hh | exact nn2 hh | exact nn3 hh | exact nn4 hh | exact nn5 hh | exact nn6 hh | exact nn7 hh | exact nn8 hh | exact nn9 hh | exact nna hh | exact nnb hh | exact nnc hh | (rcases hh with hh | hh <;> first | exact nn1 hh | exact nn2 hh | exact nn3 hh | exact nn4 hh | exact nn5 hh | exact nn6 hh | exact nn7 hh | exact nn8 hh | exact nn9 hh | exact nna hh | exact nnb hh | exact nnc hh | omega) | omega) | (intro hh; have hh : _ = _ := hh; omega) | (intros; (try simp only [] at *); omega))).keep hk22).ext hxd (by first | (intro hh; first | exact nn1 hh | exact nn2 hh | exact nn3 hh | exact nn4 hh | exact nn5 hh | exact nn6 hh | exact nn7 hh | exact nn8 hh | exact nn9 hh | exact nna hh | exact nnb hh | exact nnc hh | (rcases hh with hh | hh <;> first | exact nn1 hh | exact nn2 hh | exact nn3 hh | exact nn4 hh | exact nn5 hh | exact nn6 hh | exact nn7 hh | exact nn8 hh | exact nn9 hh | exact nna hh | exact nnb hh | exact nnc hh | omega) | omega) | (intro hh; have hh : _ = _ := hh; omega) | (intros; (try simp only [] at *); omega))) rfl rfl) ?_
                refine X.opw X.wN rfl (X.add (c := ((o.1.length : Nat) : Int) + 1) rfl rfl (by show IntKind.i64.wrap ((o.1.length : Int) + 1) = _; exact X.w_i64 (by omega))) ?_
                refine X.opw X.wN rfl (X.nilCk rfl) ?_
                refine X.opw X.wN rfl (X.fldB (j := 2) Try.underlying60 rfl rfl Try.sizeOf3 rfl) ?_
                refine X.opE X.wN rfl (X.storeE Try.sizeOf3 (((((hO.B.ext hx17 (by first | (intro hh; first | exact nn1 hh | exact nn2 hh | exact nn3 hh | exact nn4 hh | exact nn5 hh | exact nn6 hh | exact nn7 hh | exact nn8 hh | exact nn9 hh | exact nna hh | exact nnb hh | exact nnc hh | (rcases hh with hh | hh <;> first | exact nn1 hh | exact nn2 hh | exact nn3 hh | exact nn4 hh | exact nn5 hh | exact nn6 hh | exact nn7 hh | exact nn8 hh | exact nn9 hh | exact nna hh | exact nnb hh | exact nnc hh | omega) | omega) | (intro hh; have hh : _ = _ := hh; omega) | (intros; (try simp only [] at *); omega))).keep ((hk18.trans hk19).trans hk20)).ext hxf (by first | (intro hh; first | exact nn1 hh | exact nn2 hh | exact nn3 hh | exact nn4 hh | exact nn5 hh | exact nn6 hh | exact nn7 hh | exact nn8 hh | exact nn9 hh | exact nna hh | exact nnb hh | exact nnc hh | (rcases hh with hh | hh <;> first | exact nn1 hh | exact nn2 hh | exact nn3 hh | exact nn4 hh | exact nn5 hh | exact nn6 hh | exact nn7 hh | exact nn8 hh | exact nn9 hh | exact nna hh | exact nnb hh | exact nnc hh | omega) | omega) | (intro hh; have hh : _ = _ := hh; omega) | (intros; (try simp only [] at *); omega))).keep hk22).ext hxd (by first | (intro hh; first | exact nn1 hh | exact nn2 hh | exact nn3 hh | exact nn4 hh | exact nn5 hh | exact nn6 hh | exact nn7 hh | exact nn8 hh | exact nn9 hh | exact nna hh | exact nnb hh | exact nnc hh | (rcases hh with hh | hh <;> first | exact nn1 hh | exact nn2 hh | exact nn3 hh | exact nn4 hh | exact nn5 hh | exact nn6 hh | exact nn7 hh | exact nn8 hh | exact nn9 hh | exact nna hh | exact nnb hh | exact nnc hh | omega) | omega) | (intro hh; have hh : _ = _ := hh; omega) | (intros; (try simp only [] at *); omega))) rfl rfl rfl rfl) ?_
                rintro _ w24 ⟨hB24, hx24, hz24⟩
                refine X.opsEnd ?_
                refine X.inBlock ?_
                refine X.region ?_
                refine X.opw X.wN rfl (X.add (c := ((i2 + 1 : Nat) : Int)) rfl rfl (by rw [X.w_i64 (by omega)]; omega)) ?_
                refine X.opw X.wN rfl (X.move (v := .int .i64 _) rfl) ?_
                refine X.opsEnd ?_
                have hX := (Ext.andThen (Ext.andThen (Ext.andThen (Ext.andThen (Ext.andThen (Ext.andThen (Ext.andThen (Ext.andThen (Ext.refl (fun q => co2 q ≤ 3) _) hx17 (by intro q h1 h2; first | exact (h2 : False).elim | (have h2 : q = _ := h2; subst h2; omega) | (rcases h2 with h2 | h2 <;> (subst h2; omega)))) hk18 (by intro q h1 h2; first | exact (h2 : False).elim | (have h2 : q = _ := h2; subst h2; omega) | (rcases h2 with h2 | h2 <;> (subst h2; omega)))) hk19 (by intro q h1 h2; first | exact (h2 : False).elim | (have h2 : q = _ := h2; subst h2; omega) | (rcases h2 with h2 | h2 <;> (subst h2; omega)))) hk20 (by intro q h1 h2; first | exact (h2 : False).elim | (have h2 : q = _ := h2; subst h2; omega) | (rcases h2 with h2 | h2 <;> (subst h2; omega)))) hxf (by intro q h1 h2; first | exact (h2 : False).elim | (have h2 : q = _ := h2; subst h2; omega) | (rcases h2 with h2 | h2 <;> (subst h2; omega)))) hk22 (by intro q h1 h2; first | exact (h2 : False).elim | (have h2 : q = _ := h2; subst h2; omega) | (rcases h2 with h2 | h2 <;> (subst h2; omega)))) hxd (by intro q h1 h2; first | exact (h2 : False).elim | (have h2 : q = _ := h2; subst h2; omega) | (rcases h2 with h2 | h2 <;> (subst h2; omega)))) hx24 (by intro q h1 h2; first | exact (h2 : False).elim | (have h2 : q = _ := h2; subst h2; omega) | (rcases h2 with h2 | h2 <;> (subst h2; omega))))
                have hF9 := (((hGf.keep hk22).ext hxd (by first | (intro hh; first | exact nn1 hh | exact nn2 hh | exact nn3 hh | exact nn4 hh | exact nn5 hh | exact nn6 hh | exact nn7 hh | exact nn8 hh | exact nn9 hh | exact nna hh | exact nnb hh | exact nnc hh | (rcases hh with hh | hh <;> first | exact nn1 hh | exact nn2 hh | exact nn3 hh | exact nn4 hh | exact nn5 hh | exact nn6 hh | exact nn7 hh | exact nn8 hh | exact nn9 hh | exact nna hh | exact nnb hh | exact nnc hh | omega) | omega) | (intro hh; have hh : _ = _ := hh; omega) | (intros; (try simp only [] at *); omega))).ext hx24 (by first | (intro hh; first | exact nn1 hh | exact nn2 hh | exact nn3 hh | exact nn4 hh | exact nn5 hh | exact nn6 hh | exact nn7 hh | exact nn8 hh | exact nn9 hh | exact nna hh | exact nnb hh | exact nnc hh | (rcases hh with hh | hh <;> first | exact nn1 hh | exact nn2 hh | exact nn3 hh | exact nn4 hh | exact nn5 hh | exact nn6 hh | exact nn7 hh | exact nn8 hh | exact nn9 hh | exact nna hh | exact nnb hh | exact nnc hh | omega) | omega) | (intro hh; have hh : _ = _ := hh; omega) | (intros; (try simp only [] at *); omega)))
                have hG9 := (hGd.ext hx24 (by first | (intro hh; first | exact nn1 hh | exact nn2 hh | exact nn3 hh | exact nn4 hh | exact nn5 hh | exact nn6 hh | exact nn7 hh | exact nn8 hh | exact nn9 hh | exact nna hh | exact nnb hh | exact nnc hh | (rcases hh with hh | hh <;> first | exact nn1 hh | exact nn2 hh | exact nn3 hh | exact nn4 hh | exact nn5 hh | exact nn6 hh | exact nn7 hh | exact nn8 hh | exact nn9 hh | exact nna hh | exact nnb hh | exact nnc hh | omega) | omega) | (intro hh; have hh : _ = _ := hh; omega) | (intros; (try simp only [] at *); omega)))
                have hR9 := (((((((hRk.keep hk18).keep hk19).keep hk20).ext hxf (by intros; omega) (by intro q g1 g2; (try simp only [] at g1); have g2 : q = _ := g2; omega)).keep hk22).ext hxd (by intros; omega) (by intro q g1 g2; (try simp only [] at g1); have g2 : q = _ := g2; omega)).ext hx24 (by intros; omega) (by intro q g1 g2; (try simp only [] at g1); have g2 : q = _ := g2; omega))
                have hM9 := (((((hMcc.keep hk20).ext hxf (by intros; omega) (by intro q g1 g2; (try simp only [] at g1); have g2 : q = _ := g2; omega)).keep hk22).ext hxd (by intros; omega) (by intro q g1 g2; (try simp only [] at g1); have g2 : q = _ := g2; omega)).ext hx24 (by intros; omega) (by intro q g1 g2; (try simp only [] at g1); have g2 : q = _ := g2; omega))
                obtain ⟨co3, hO3, hc3⟩ := hO.addF (f := ((keptB kp (looseL s0 (s0.near.take i2)).1 (s0.spots k) (fat s0.fs k) (sizeK sz (looseL s0 (s0.near.take i2)).2 (fat s0.fs k))), (keptB kp (looseL s0 (s0.near.take i2)).1 (s0.spots k) (fat s0.fs k) (sizeK sz (looseL s0 (s0.near.take i2)).2 (fat s0.fs k))))) (d' := put nm (o.1.length : Int) o.2) (p := w19.heap.size) (h1 := w18.heap.size) (h2 := w19.heap.size) (A1n := 0) hX hB24 hF9 hG9 (by omega) (by omega) (by omega) (by omega) ((((hB20.ext hxf (by first | (intro hh; first | exact nn1 hh | exact nn2 hh | exact nn3 hh | exact nn4 hh | exact nn5 hh | exact nn6 hh | exact nn7 hh | exact nn8 hh | exact nn9 hh | exact nna hh | exact nnb hh | exact nnc hh | (rcases hh with hh | hh <;> first | exact nn1 hh | exact nn2 hh | exact nn3 hh | exact nn4 hh | exact nn5 hh | exact nn6 hh | exact nn7 hh | exact nn8 hh | exact nn9 hh | exact nna hh | exact nnb hh | exact nnc hh | omega) | omega) | (intro hh; have hh : _ = _ := hh; omega) | (intros; (try simp only [] at *); omega))).keep hk22).ext hxd (by first | (intro hh; first | exact nn1 hh | exact nn2 hh | exact nn3 hh | exact nn4 hh | exact nn5 hh | exact nn6 hh | exact nn7 hh | exact nn8 hh | exact nn9 hh | exact nna hh | exact nnb hh | exact nnc hh | (rcases hh with hh | hh <;> first | exact nn1 hh | exact nn2 hh | exact nn3 hh | exact nn4 hh | exact nn5 hh | exact nn6 hh | exact nn7 hh | exact nn8 hh | exact nn9 hh | exact nna hh | exact nnb hh | exact nnc hh | omega) | omega) | (intro hh; have hh : _ = _ := hh; omega) | (intros; (try simp only [] at *); omega))).ext hx24 (by first | (intro hh; first | exact nn1 hh | exact nn2 hh | exact nn3 hh | exact nn4 hh | exact nn5 hh | exact nn6 hh | exact nn7 hh | exact nn8 hh | exact nn9 hh | exact nna hh | exact nnb hh | exact nnc hh | (rcases hh with hh | hh <;> first | exact nn1 hh | exact nn2 hh | exact nn3 hh | exact nn4 hh | exact nn5 hh | exact nn6 hh | exact nn7 hh | exact nn8 hh | exact nn9 hh | exact nna hh | exact nnb hh | exact nnc hh | omega) | omega) | (intro hh; have hh : _ = _ := hh; omega) | (intros; (try simp only [] at *); omega))) (hR9.mono (fun q _ g => ⟨by omega, by omega⟩)) (hM9.mono (fun q _ g => ⟨by omega, by omega⟩))
                refine hback (i2 + 1, (o.1 ++ [((keptB kp (looseL s0 (s0.near.take i2)).1 (s0.spots k) (fat s0.fs k) (sizeK sz (looseL s0 (s0.near.take i2)).2 (fat s0.fs k))), (keptB kp (looseL s0 (s0.near.take i2)).1 (s0.spots k) (fat s0.fs k) (sizeK sz (looseL s0 (s0.near.take i2)).2 (fat s0.fs k))))], put nm (o.1.length : Int) o.2)) _ _ ⟨rfl, rfl, rfl, rfl, rfl, rfl, rfl, rfl, trivial⟩ ⟨co3, pt2 ++ [w19.heap.size], by (dsimp only); omega, hO3, (fun q hq => if g : q < wm.heap.size then hco2 q (by rw [← hc3 q g]; exact hq) else (by omega)), (by rw [hc3 _ (by omega)]; exact hcn1), (by rw [hc3 _ (by omega)]; exact hcs1), (by rw [hc3 _ (by omega)]; exact hcz1), (fun q a1 a2 => by rw [hc3 _ (by omega)]; exact hcr q a1 a2), by (dsimp only); rw [hs1, hs2]; rw [← hlf9, drop_cons hxk, loseF, hnn2], (by rw [hs1]; exact (((((kBs.keep ((hk18.trans hk19).trans hk20)).ext hxf (by first | (intro hh; first | exact nn1 hh | exact nn2 hh | exact nn3 hh | exact nn4 hh | exact nn5 hh | exact nn6 hh | exact nn7 hh | exact nn8 hh | exact nn9 hh | exact nna hh | exact nnb hh | exact nnc hh | (rcases hh with hh | hh <;> first | exact nn1 hh | exact nn2 hh | exact nn3 hh | exact nn4 hh | exact nn5 hh | exact nn6 hh | exact nn7 hh | exact nn8 hh | exact nn9 hh | exact nna hh | exact nnb hh | exact nnc hh | omega) | omega) | (intro hh; have hh : _ = _ := hh; omega) | (intros; (try simp only [] at *); omega))).keep hk22).ext hxd (by first | (intro hh; first | exact nn1 hh | exact nn2 hh | exact nn3 hh | exact nn4 hh | exact nn5 hh | exact nn6 hh | exact nn7 hh | exact nn8 hh | exact nn9 hh | exact nna hh | exact nnb hh | exact nnc hh | (rcases hh with hh | hh <;> first | exact nn1 hh | exact nn2 hh | exact nn3 hh | exact nn4 hh | exact nn5 hh | exact nn6 hh | exact nn7 hh | exact nn8 hh | exact nn9 hh | exact nna hh | exact nnb hh | exact nnc hh | omega) | omega) | (intro hh; have hh : _ = _ := hh; omega) | (intros; (try simp only [] at *); omega))).ext hx24 (by first | (intro hh; first | exact nn1 hh | exact nn2 hh | exact nn3 hh | exact nn4 hh | exact nn5 hh | exact nn6 hh | exact nn7 hh | exact nn8 hh | exact nn9 hh | exact nna hh | exact nnb hh | exact nnc hh | (rcases hh with hh | hh <;> first | exact nn1 hh | exact nn2 hh | exact nn3 hh | exact nn4 hh | exact nn5 hh | exact nn6 hh | exact nn7 hh | exact nn8 hh | exact nn9 hh | exact nna hh | exact nnb hh | exact nnc hh | omega) | omega) | (intro hh; have hh : _ = _ := hh; omega) | (intros; (try simp only [] at *); omega)))), (by rw [hs2]; exact (((((kBz.keep ((hk18.trans hk19).trans hk20)).ext hxf (by first | (intro hh; first | exact nn1 hh | exact nn2 hh | exact nn3 hh | exact nn4 hh | exact nn5 hh | exact nn6 hh | exact nn7 hh | exact nn8 hh | exact nn9 hh | exact nna hh | exact nnb hh | exact nnc hh | (rcases hh with hh | hh <;> first | exact nn1 hh | exact nn2 hh | exact nn3 hh | exact nn4 hh | exact nn5 hh | exact nn6 hh | exact nn7 hh | exact nn8 hh | exact nn9 hh | exact nna hh | exact nnb hh | exact nnc hh | omega) | omega) | (intro hh; have hh : _ = _ := hh; omega) | (intros; (try simp only [] at *); omega))).keep hk22).ext hxd (by first | (intro hh; first | exact nn1 hh | exact nn2 hh | exact nn3 hh | exact nn4 hh | exact nn5 hh | exact nn6 hh | exact nn7 hh | exact nn8 hh | exact nn9 hh | exact nna hh | exact nnb hh | exact nnc hh | (rcases hh with hh | hh <;> first | exact nn1 hh | exact nn2 hh | exact nn3 hh | exact nn4 hh | exact nn5 hh | exact nn6 hh | exact nn7 hh | exact nn8 hh | exact nn9 hh | exact nna hh | exact nnb hh | exact nnc hh | omega) | omega) | (intro hh; have hh : _ = _ := hh; omega) | (intros; (try simp only [] at *); omega))).ext hx24 (by first | (intro hh; first | exact nn1 hh | exact nn2 hh | exact nn3 hh | exact nn4 hh | exact nn5 hh | exact nn6 hh | exact nn7 hh | exact nn8 hh | exact nn9 hh | exact nna hh | exact nnb hh | exact nnc hh | (rcases hh with hh | hh <;> first | exact nn1 hh | exact nn2 hh | exact nn3 hh | exact nn4 hh | exact nn5 hh | exact nn6 hh | exact nn7 hh | exact nn8 hh | exact nn9 hh | exact nna hh | exact nnb hh | exact nnc hh | omega) | omega) | (intro hh; have hh : _ = _ := hh; omega) | (intros; (try simp only [] at *); omega)))), ((((((hGm.ext hx17 (by first | (intro hh; first | exact nn1 hh | exact nn2 hh | exact nn3 hh | exact nn4 hh | exact nn5 hh | exact nn6 hh | exact nn7 hh | exact nn8 hh | exact nn9 hh | exact nna hh | exact nnb hh | exact nnc hh | (rcases hh with hh | hh <;> first | exact nn1 hh | exact nn2 hh | exact nn3 hh | exact nn4 hh | exact nn5 hh | exact nn6 hh | exact nn7 hh | exact nn8 hh | exact nn9 hh | exact nna hh | exact nnb hh | exact nnc hh | omega) | omega) | (intro hh; have hh : _ = _ := hh; omega) | (intros; (try simp only [] at *); omega))).keep ((hk18.trans hk19).trans hk20)).ext hxf (by first | (intro hh; first | exact nn1 hh | exact nn2 hh | exact nn3 hh | exact nn4 hh | exact nn5 hh | exact nn6 hh | exact nn7 hh | exact nn8 hh | exact nn9 hh | exact nna hh | exact nnb hh | exact nnc hh | (rcases hh with hh | hh <;> first | exact nn1 hh | exact nn2 hh | exact nn3 hh | exact nn4 hh | exact nn5 hh | exact nn6 hh | exact nn7 hh | exact nn8 hh | exact nn9 hh | exact nna hh | exact nnb hh | exact nnc hh | omega) | omega) | (intro hh; have hh : _ = _ := hh; omega) | (intros; (try simp only [] at *); omega))).keep hk22).ext hxd (by first | (intro hh; first | exact nn1 hh | exact nn2 hh | exact nn3 hh | exact nn4 hh | exact nn5 hh | exact nn6 hh | exact nn7 hh | exact nn8 hh | exact nn9 hh | exact nna hh | exact nnb hh | exact nnc hh | (rcases hh with hh | hh <;> first | exact nn1 hh | exact nn2 hh | exact nn3 hh | exact nn4 hh | exact nn5 hh | exact nn6 hh | exact nn7 hh | exact nn8 hh | exact nn9 hh | exact nna hh | exact nnb hh | exact nnc hh | omega) | omega) | (intro hh; have hh : _ = _ := hh; omega) | (intros; (try simp only [] at *); omega))).ext hx24 (by first | (intro hh; first | exact nn1 hh | exact nn2 hh | exact nn3 hh | exact nn4 hh | exact nn5 hh | exact nn6 hh | exact nn7 hh | exact nn8 hh | exact nn9 hh | exact nna hh | exact nnb hh | exact nnc hh | (rcases hh with hh | hh <;> first | exact nn1 hh | exact nn2 hh | exact nn3 hh | exact nn4 hh | exact nn5 hh | exact nn6 hh | exact nn7 hh | exact nn8 hh | exact nn9 hh | exact nna hh | exact nnb hh | exact nnc hh | omega) | omega) | (intro hh; have hh : _ = _ := hh; omega) | (intros; (try simp only [] at *); omega))), ((((((((hSn.ext hx17 (by intro q g1 g2 g3; have g4 := hcr q g1 g2; first | omega | (have g3 : q = _ := g3; subst g3; omega) | (rcases g3 with g3 | g3 <;> first | omega | (subst g3; omega)))).keep hk18).keep hk19).keep hk20).ext hxf (by intro q g1 g2 g3; have g4 := hcr q g1 g2; first | omega | (have g3 : q = _ := g3; subst g3; omega) | (rcases g3 with g3 | g3 <;> first | omega | (subst g3; omega)))).keep hk22).ext hxd (by intro q g1 g2 g3; have g4 := hcr q g1 g2; first | omega | (have g3 : q = _ := g3; subst g3; omega) | (rcases g3 with g3 | g3 <;> first | omega | (subst g3; omega)))).ext hx24 (by intro q g1 g2 g3; have g4 := hcr q g1 g2; first | omega | (have g3 : q = _ := g3; subst g3; omega) | (rcases g3 with g3 | g3 <;> first | omega | (subst g3; omega)))), by (dsimp only); rw [List.length_append]; simp; omega, (by omega), ((((((((hkm.step hx17 (by intros; (try simp only [] at *); omega)).trans hk18).trans hk19).trans hk20).step hxf (by intros; (try simp only [] at *); omega)).trans hk22).step hxd (by intros; (try simp only [] at *); omega)).step hx24 (by intros; (try simp only [] at *); omega))⟩ (by (dsimp only); omega)
            · refine X.opsEnd ?_
              refine X.seq ?_
              refine X.condF rfl ?_
              refine X.exit rfl ?_
              refine X.seq ?_
              refine X.region ?_
              refine X.opw X.wN rfl (X.move rfl) ?_
              refine X.opw X.wN rfl (X.move rfl) ?_
              refine X.opw X.wN rfl (X.nilCk rfl) ?_
              refine X.opw X.wN rfl (X.fldB (j := 3) Try.underlying60 rfl rfl Try.sizeOf56 rfl) ?_
              refine X.opw X.wN rfl (X.load1B Try.isAgg56 hO.B rfl rfl) ?_
              refine X.opE X.wN rfl (X.callE (mapClone_c _ hO.G) Try.call35 rfl rfl) ?_
              rintro _ w25 ⟨rfl, gX, hk25, hz25⟩
              refine X.opw X.wN rfl (X.nilCk rfl) ?_
              refine X.opw X.wN rfl (X.fldB (j := 4) Try.underlying60 rfl rfl Try.sizeOf56 rfl) ?_
              refine X.opE X.wN rfl (X.storeE Try.sizeOf56 (hO.B.keep hk25) rfl rfl rfl rfl) ?_
              rintro _ w26 ⟨hB26, hx26, hz26⟩
              refine X.opsEnd ?_
              refine X.seq ?_
              refine X.region ?_
              refine X.opw X.wN rfl (X.move rfl) ?_
              refine X.opw X.wN rfl (X.assign rfl) ?_
              refine X.opw X.wN rfl (X.assign rfl) ?_
              refine X.opsEnd ?_
              refine X.ret2 (v2 := (.int .i64 _)) Try.func14 Try.results14 rfl rfl ?_
              have hfin : o = s0.left dn kp sz := by
                have : s0.near.drop i2 = [] := List.drop_of_length_le (by omega)
                rw [this] at hlf9; exact hlf9
              have hX := (Ext.andThen (Ext.andThen (Ext.refl (fun q => co2 q = 1) _) hk25 (by intro q h1 h2; first | exact (h2 : False).elim | (have h2 : q = _ := h2; subst h2; exact o1))) hx26 (by intro q h1 h2; first | exact (h2 : False).elim | (have h2 : q = _ := h2; subst h2; exact o1)))
              have hXs := hX.size
              obtain ⟨co3, hcol⟩ : ∃ co3, co3 = rec' co2 wm.heap.size w26.heap.size 4 := ⟨_, rfl⟩
              have hold : ∀ q, q < wm.heap.size → co3 q = co2 q := fun q hq => by rw [hcol]; exact rec_old hq
              have P := hO.part (col' := co3) (fun v => v = 1) hX hold (fun q hq ht => ht)
              refine ⟨((hkm.trans hk25).step hx26 (by intros; (try simp only [] at *); omega)), .inr ⟨by omega, bo, co3, rfl, ?_, fun q hq => ?_⟩⟩
              · rw [Int.toNat_natCast, DS.lose, ← hfin]
                exact ⟨bfo, bdo, wm.heap.size, blo, none, 0, 0, pt2, hB26, P.F (by decide), P.G (by decide), (gX.ext hx26 (by first | (intro hh; first | exact nn1 hh | exact nn2 hh | exact nn3 hh | exact nn4 hh | exact nn5 hh | exact nn6 hh | exact nn7 hh | exact nn8 hh | exact nn9 hh | exact nna hh | exact nnb hh | exact nnc hh | (rcases hh with hh | hh <;> first | exact nn1 hh | exact nn2 hh | exact nn3 hh | exact nn4 hh | exact nn5 hh | exact nn6 hh | exact nn7 hh | exact nn8 hh | exact nn9 hh | exact nna hh | exact nnb hh | exact nnc hh | omega) | omega) | (intro hh; have hh : _ = _ := hh; omega) | (intros; (try simp only [] at *); omega))), P.L (by decide), P.M (by decide), P.cb, P.cf, P.cd, (by rw [hcol]; exact rec_new (by omega) (by omega)), P.cl, (fun q hq => by rw [hcol] at hq; exact rec_lt hO.lt hXs hq), P.pl, fun k q f a1 a2 => P.fl k q f a1 a2 (fun j _ _ => by omega)⟩
              · by_cases g : q < wm.heap.size
                · have := hco2 q (by rw [← hold q g]; exact hq)
                  omega
                · omega
          · refine X.d1E (i := 7) rfl (X.dwN rfl) (X.boxE rfl rfl) (by rintro _ w27 ⟨rfl, hB27, hk27, hz27⟩ _; exact hk27.mono (fun _ _ h => h.elim)) ?_
            rintro _ w27 ⟨rfl, hB27, hk27, hz27⟩
            refine X.dE (i := 3) (by kernel_rfl) rfl (X.dwN rfl) (X.boxE rfl rfl) (by rintro _ w28 ⟨rfl, hB28, hk28, hz28⟩ _; exact hk28.mono (fun _ _ h => h.elim)) ?_
            rintro _ w28 ⟨rfl, hB28, hk28, hz28⟩
            refine X.dTake 8 rfl (by kernel_rfl) (by kernel_rfl) (by kernel_rfl) (X.dwN rfl) (fun w' hk' => X.assign rfl) ?_
            refine X.dStep (i := 9) (by kernel_rfl) rfl (X.dwN rfl) (X.assign rfl) (fun h => absurd h (by decide)) ?_
            refine X.dEnd (by kernel_rfl) ?_
            refine X.seq ?_
            refine X.seq ?_
            refine X.region ?_
            refine X.opw X.wN rfl (X.move rfl) ?_
            refine X.opE X.wN rfl (X.callE (near_c _ (h.keep (((hkn.trans hk13).trans hk27).trans hk28)) hok (by rw [DS.size]; omega)) Try.call38 rfl rfl) ?_
            rintro _ w29 ⟨An, cn, rfl, hcn, hMn, hk29⟩
            have hk29' := hk29.size
            refine X.opw X.wN rfl (X.lenSl Try.underlying92 rfl) ?_
            refine X.opw X.wN rfl (X.move rfl) ?_
            refine X.opsEnd ?_
            refine X.block ?_
            -- LOOP live: 0=d, 9=out, 11=names, 14=sec, 15=siz, 86, 87, 88*
            obtain ⟨_, _, e9, _, gNr0⟩ := hMn.slF KI_flat w28.heap.size (fun q hq => hq.1)
            injection e9 with e91 e92 e93
            subst e91 e93
            clear e92
            have hnnl : s0.near.length = s0.near.length := rfl
            have gOm := ((((hO1.keep hk13).keep hk27).keep hk28).keep hk29)
            have gNm := (hG1.keep (((hk13.trans hk27).trans hk28).trans hk29))
            have hz0 : ∀ q, w9.heap.size ≤ q → co q = 0 := fun q hq => Classical.byContradiction fun e => by have := hOl q e; omega
            refine X.loopL (σ := Nat × (List FILE × DIR)) (fun s => [(0, ptrV b), (9, ptrV bo), (11, .map (some w9.heap.size)), (14, ptrV w27.heap.size), (15, ptrV w13.heap.size), (86, .slice An s0.near.length cn), (87, .int .i64 (s0.near.length : Int)), (88, .int .i64 (s.1 : Int))]) (fun s w' => ∃ (co : Nat → Nat) (pt : List Nat), s.1 ≤ s0.near.length ∧ DkB co w' bo bfo bdo bxo blo none 0 0 pt (DS.mk0 s0.rm s.2.1 s.2.2 []) ∧ (∀ q, co q ≠ 0 → wi.heap.size ≤ q) ∧ co w9.heap.size = 0 ∧ co w27.heap.size = 0 ∧ co w13.heap.size = 0 ∧ (∀ q, w28.heap.size ≤ q → q < w29.heap.size → co q = 0) ∧ loseF s0 (tns (s0.chs.take dn) s0.fx) kp sz (s0.near.drop s.1) (looseL s0 (s0.near.take s.1)).1 (looseL s0 (s0.near.take s.1)).2 s.2 = s0.left dn kp sz ∧ Blk w' w27.heap.size (kpL Aq1 q1 r1 (((looseL s0 (s0.near.take s.1)).1 : Nat) : Int)) 91 ∧ Blk w' w13.heap.size (kpL Aq2 q2 r2 (((looseL s0 (s0.near.take s.1)).2 : Nat) : Int)) 91 ∧ MpV (fun x : Int => Value.int .i64 x) (fun v : ByteArray => Value.string v) w' w9.heap.size nl ∧ Sl KI w28.heap.size w29.heap.size w' An s0.near.length s0.near ∧ s.2.1.length ≤ s.1 ∧ w29.heap.size ≤ w'.heap.size ∧ Keep w w') (fun s => s0.near.length - s.1) (0, ([], [])) ⟨rfl, rfl, rfl, rfl, rfl, rfl, rfl, rfl, trivial⟩ ⟨co, [], Nat.zero_le _, gOm, hco, hz0 _ (by omega), hz0 _ (by omega), hz0 _ (by omega), fun q hq _ => hz0 q (by omega), rfl, (hB28.keep hk29), (hB27.keep (hk28.trans hk29)), gNm, gNr0, Nat.le_refl _, Nat.le_refl _, ((((hkn.trans hk13).trans hk27).trans hk28).trans hk29)⟩ ?_
            rintro ⟨i2, o⟩ e wm ⟨co2, pt2, hi2, hO, hco2, hcn1, hcs1, hcz1, hcr, hlf9, gBs, gBz, hGm, hSn, hol, hwn, hkm⟩ hback
            dsimp only at hi2 hO hlf9 gBs gBz hol ⊢
            have hkm' := hkm.size
            have hOl2 := hO.lt
            have o1 := hO.cb
            have o2 := hO.cf
            have o3 := hO.cd
            have p1 := hco2 bo (by omega)
            have p2 := hco2 bfo (by omega)
            have p3 := hco2 bdo (by omega)
            have hb1 := hO.B.lt
            have hb2 := hO.F.lt
            have hb3 := hO.G.lt
            have hb4 := gBs.lt
            have hb5 := gBz.lt
            have hb6 := hGm.lt
            have nn1 : Hid (bo ≠ w27.heap.size) := fun e => by rw [e] at o1; omega
            have nn2 : Hid (bo ≠ w13.heap.size) := fun e => by rw [e] at o1; omega
            have nn3 : Hid (bfo ≠ w27.heap.size) := fun e => by rw [e] at o2; omega
            have nn4 : Hid (bfo ≠ w13.heap.size) := fun e => by rw [e] at o2; omega
            have nn5 : Hid (bdo ≠ w27.heap.size) := fun e => by rw [e] at o3; omega
            have nn6 : Hid (bdo ≠ w13.heap.size) := fun e => by rw [e] at o3; omega
            have nn7 : Hid (bo ≠ bfo) := fun e => by rw [e] at o1; omega
            have nn8 : Hid (bo ≠ bdo) := fun e => by rw [e] at o1; omega
            have nn9 : Hid (bfo ≠ bdo) := fun e => by rw [e] at o2; omega
            have nna : Hid (bo ≠ w9.heap.size) := fun e => by rw [e] at o1; omega
            have nnb : Hid (bfo ≠ w9.heap.size) := fun e => by rw [e] at o2; omega
            have nnc : Hid (bdo ≠ w9.heap.size) := fun e => by rw [e] at o3; omega
            have hll := looseL_le hok (s0.near.take i2)
            have htl : (s0.near.take i2).length = i2 := by rw [List.length_take]; omega
            rw [htl] at hll
            refine X.seq ?_
            refine X.region ?_
            refine X.opP X.wN rfl rfl (X.lss rfl rfl) (fun h89 => ?_) (fun h89 => ?_)
            · obtain ⟨k, hxk⟩ := getN i2 hnnl (by omega)
              obtain ⟨hk0, hk1⟩ := near_ok hok k (List.mem_of_getElem? hxk)
              obtain ⟨pf, f, A1, n1, c1, A2, n2, c2, hfb, hpf, hff, hn1, hn2, hfl1, hpc, hBf, hM1, hM2⟩ := h.at_ hk0 hk1
              have hlf := hok.len hff
              have hfat := fat_at hff
              have hskl := sizeK_le hok hff sz (looseL s0 (s0.near.take i2)).2
              have hstep : looseL s0 (s0.near.take (i2 + 1)) = ((looseL s0 (s0.near.take i2)).1 + (s0.spots k).length, (looseL s0 (s0.near.take i2)).2 + cntK f) := by
                rw [take_at hxk, looseL_app, looseL, looseL, hfat]; simp [cntK]
              have hs1 : (looseL s0 (s0.near.take (i2 + 1))).1 = (looseL s0 (s0.near.take i2)).1 + (s0.spots k).length := by rw [hstep]
              have hs2 : (looseL s0 (s0.near.take (i2 + 1))).2 = (looseL s0 (s0.near.take i2)).2 + cntK (fat s0.fs k) := by rw [hstep, hfat]
              rw [← hfat] at hskl
              refine X.opsEnd ?_
              refine X.seq ?_
              refine X.condT rfl ?_
              refine X.skip ?_
              refine X.seq ?_
              refine X.block ?_
              refine X.seq ?_
              refine X.region ?_
              refine X.opw X.wN rfl (X.idxS hSn Try.underlying92 Try.sizeOf3 rfl rfl ⟨by omega, by omega⟩) ?_
              refine X.opw X.wN rfl (X.loadS Try.isAgg3 hSn hxk rfl (fun _ h => by rw [h.1]; rfl)) ?_
              refine X.opw X.wN rfl (X.assign (v := .int .i64 _) rfl) ?_
              refine X.opsEnd ?_
              refine X.seq ?_
              refine X.region ?_
              refine X.opw X.wN rfl (X.move rfl) ?_
              refine X.opw X.wN rfl (X.move (v := .int .i64 _) rfl) ?_
              refine X.opw X.wN rfl (X.move rfl) ?_
              refine X.opw X.wN rfl (X.move rfl) ?_
              refine X.opE X.wN rfl (X.callE (kept_c k (looseL s0 (s0.near.take i2)).1 (looseL s0 (s0.near.take i2)).2 _ (h.keep hkm) hok hk0 hk1 gBs gBz (hS1.keep hkm) (hS2.keep hkm) (.inr (by omega)) (.inr (by omega)) (by omega) (Classical.byContradiction fun e => by have := hlt _ e; omega) (Classical.byContradiction fun e => by have := hlt _ e; omega) (by omega) (by omega) (by omega)) Try.call39 rfl rfl) ?_
              rintro _ w30 ⟨Ak, rfl, hRk, kBs, kBz, hx30⟩
              have hx30' := hx30.size
              refine X.opw X.wN rfl (X.assign rfl) ?_
              refine X.opsEnd ?_
              refine X.seq ?_
              refine X.region ?_
              refine X.opw X.wN rfl (X.move rfl) ?_
              refine X.opw X.wN rfl (X.move (v := .int .i64 _) rfl) ?_
              refine X.opw X.wN rfl (X.lookupOkV (enc := fun x : Int => Value.int .i64 x) (venc := fun v : ByteArray => Value.string v) (z := ⟨#[]⟩) (a := k) Try.underlying88 (keyInt Try.underlying3) Try.zeroValue9 (hGm.ext hx30 (by first | (intro hh; first | exact nn1 hh | exact nn2 hh | exact nn3 hh | exact nn4 hh | exact nn5 hh | exact nn6 hh | exact nn7 hh | exact nn8 hh | exact nn9 hh | exact nna hh | exact nnb hh | exact nnc hh | (rcases hh with hh | hh <;> first | exact nn1 hh | exact nn2 hh | exact nn3 hh | exact nn4 hh | exact nn5 hh | exact nn6 hh | exact nn7 hh | exact nn8 hh | exact nn9 hh | exact nna hh | exact nnb hh | exact nnc hh | omega) | omega) | (intro hh; have hh : _ = _ := hh; omega) | (intros; (try simp only [] at *); omega))) rfl rfl) ?_
              refine X.opw X.wN rfl (X.move rfl) ?_
              refine X.opw X.wN rfl (X.extr rfl rfl) ?_
              refine X.opw X.wN rfl (X.extr rfl rfl) ?_
              refine X.opw X.wN rfl (X.assign (v := .string _) rfl) ?_
              refine X.opw X.wN rfl (X.assign (v := .bool _) rfl) ?_
              refine X.opsEnd ?_
              refine X.seq ?_
              refine X.seq ?_
              refine X.region ?_
              refine X.opw X.wN rfl (X.move (v := .bool _) rfl) ?_
              refine X.opw X.wN rfl (X.not_ rfl) ?_
              refine X.opsEnd ?_
              refine X.condB rfl (fun hc => ?_) (fun hc => ?_)
              · have hnn2 : nameOf (tns (s0.chs.take dn) s0.fx) k = none := by
                  cases hq : nameOf (tns (s0.chs.take dn) s0.fx) k with
                  | none => rfl
                  | some nm =>
                    have h5 := (hnl2 k nm).2 ((nameOf_some (hinj dn)).1 hq)
                    rw [h5] at hc; simp at hc
                refine X.exit rfl ?_
                refine X.region ?_
                refine X.opw X.wN rfl (X.add (c := ((i2 + 1 : Nat) : Int)) rfl rfl (by rw [X.w_i64 (by omega)]; omega)) ?_
                refine X.opw X.wN rfl (X.move (v := .int .i64 _) rfl) ?_
                refine X.opsEnd ?_
                refine hback (i2 + 1, o) _ _ ⟨rfl, rfl, rfl, rfl, rfl, rfl, rfl, rfl, trivial⟩ ⟨co2, pt2, by (dsimp only); omega, (hO.ext hx30 (by intro q g1 g2; rcases g2 with g2 | g2 <;> (subst g2; first | exact g1 hcs1 | exact g1 hcz1))), hco2, hcn1, hcs1, hcz1, hcr, by (dsimp only); rw [hs1, hs2]; rw [← hlf9, drop_cons hxk, loseF, hnn2], (by rw [hs1]; exact kBs), (by rw [hs2]; exact kBz), (hGm.ext hx30 (by first | (intro hh; first | exact nn1 hh | exact nn2 hh | exact nn3 hh | exact nn4 hh | exact nn5 hh | exact nn6 hh | exact nn7 hh | exact nn8 hh | exact nn9 hh | exact nna hh | exact nnb hh | exact nnc hh | (rcases hh with hh | hh <;> first | exact nn1 hh | exact nn2 hh | exact nn3 hh | exact nn4 hh | exact nn5 hh | exact nn6 hh | exact nn7 hh | exact nn8 hh | exact nn9 hh | exact nna hh | exact nnb hh | exact nnc hh | omega) | omega) | (intro hh; have hh : _ = _ := hh; omega) | (intros; (try simp only [] at *); omega))), (hSn.ext hx30 (by intro q g1 g2 g3; have g4 := hcr q g1 g2; first | omega | (have g3 : q = _ := g3; subst g3; omega) | (rcases g3 with g3 | g3 <;> first | omega | (subst g3; omega)))), by (dsimp only); omega, (by omega), (hkm.step hx30 (by intros; (try simp only [] at *); omega))⟩ (by (dsimp only); omega)
              · obtain ⟨nm, hnm⟩ : ∃ nm, asc k nl = some nm := by
                  cases hq : asc k nl with
                  | none => rw [hq] at hc; simp at hc
                  | some nm => exact ⟨nm, rfl⟩
                have hnn2 : nameOf (tns (s0.chs.take dn) s0.fx) k = some nm := (nameOf_some (hinj dn)).2 ((hnl2 k nm).1 hnm)
                rw [hnm, Option.getD_some]
                refine X.skip ?_
                refine X.seq ?_
                refine X.regionD (fun _ => False) 13 (by kernel_rfl) (by kernel_rfl) (fun w31 hk31 hz31 => ?_)
                refine X.dTake 0 rfl (by kernel_rfl) (by kernel_rfl) (by kernel_rfl) (X.dwN rfl) (fun w' hk' => X.move rfl) ?_
                refine X.dTake 1 rfl (by kernel_rfl) (by kernel_rfl) (by kernel_rfl) (X.dwN rfl) (fun w' hk' => X.nilCk rfl) ?_
                refine X.dTake 2 rfl (by kernel_rfl) (by kernel_rfl) (by kernel_rfl) (X.dwN rfl) (fun w' hk' => X.fldB (j := 1) Try.underlying60 rfl rfl Try.sizeOf55 rfl) ?_
                refine X.dTake 3 rfl (by kernel_rfl) (by kernel_rfl) (by kernel_rfl) (X.dwN rfl) (fun w' hk' => X.load1B Try.isAgg55 ((hO.B.ext hx30 (by first | (intro hh; first | exact nn1 hh | exact nn2 hh | exact nn3 hh | exact nn4 hh | exact nn5 hh | exact nn6 hh | exact nn7 hh | exact nn8 hh | exact nn9 hh | exact nna hh | exact nnb hh | exact nnc hh | (rcases hh with hh | hh <;> first | exact nn1 hh | exact nn2 hh | exact nn3 hh | exact nn4 hh | exact nn5 hh | exact nn6 hh | exact nn7 hh | exact nn8 hh | exact nn9 hh | exact nna hh | exact nnb hh | exact nnc hh | omega) | omega) | (intro hh; have hh : _ = _ := hh; omega) | (intros; (try simp only [] at *); omega))).keep (hk31.trans hk')) rfl rfl) ?_
                refine X.dTake 4 rfl (by kernel_rfl) (by kernel_rfl) (by kernel_rfl) (X.dwN rfl) (fun w' hk' => X.move rfl) ?_
                refine X.dTake 5 rfl (by kernel_rfl) (by kernel_rfl) (by kernel_rfl) (X.dwN rfl) (fun w' hk' => X.nilCk rfl) ?_
                refine X.dTake 6 rfl (by kernel_rfl) (by kernel_rfl) (by kernel_rfl) (X.dwN rfl) (fun w' hk' => X.fldB (j := 2) Try.underlying60 rfl rfl Try.sizeOf3 rfl) ?_
                refine X.dTake 7 rfl (by kernel_rfl) (by kernel_rfl) (by kernel_rfl) (X.dwN rfl) (fun w' hk' => X.load1B Try.isAgg3 ((hO.B.ext hx30 (by first | (intro hh; first | exact nn1 hh | exact nn2 hh | exact nn3 hh | exact nn4 hh | exact nn5 hh | exact nn6 hh | exact nn7 hh | exact nn8 hh | exact nn9 hh | exact nna hh | exact nnb hh | exact nnc hh | (rcases hh with hh | hh <;> first | exact nn1 hh | exact nn2 hh | exact nn3 hh | exact nn4 hh | exact nn5 hh | exact nn6 hh | exact nn7 hh | exact nn8 hh | exact nn9 hh | exact nna hh | exact nnb hh | exact nnc hh | omega) | omega) | (intro hh; have hh : _ = _ := hh; omega) | (intros; (try simp only [] at *); omega))).keep (hk31.trans hk')) rfl rfl) ?_
                refine X.dTake 8 rfl (by kernel_rfl) (by kernel_rfl) (by kernel_rfl) (X.dwN rfl) (fun w' hk' => X.move rfl) ?_
                refine X.dTake 9 rfl (by kernel_rfl) (by kernel_rfl) (by kernel_rfl) (X.dwN rfl) (fun w' hk' => X.move rfl) ?_
                refine X.dE (i := 10) (by kernel_rfl) rfl (X.dwN rfl) (X.callE (CloneB_c _ ((hRk.keep hk31).rd KB_flat).2 (by omega)) Try.call32 rfl rfl) (by rintro _ w32 ⟨A2c, c2c, rfl, hccc, hMcc, hk32⟩ _; exact hk32.mono (fun _ _ h => h.elim)) ?_
                rintro _ w32 ⟨A2c, c2c, rfl, hccc, hMcc, hk32⟩
                have hk32' := hk32.size
                refine X.dTake 11 rfl (by kernel_rfl) (by kernel_rfl) (by kernel_rfl) (X.dwN rfl) (fun w' hk' => X.buildB (vs := [(0, .slice Ak (sizeK sz (looseL s0 (s0.near.take i2)).2 (fat s0.fs k)) (sizeK sz (looseL s0 (s0.near.take i2)).2 (fat s0.fs k))), (1, .slice A2c (sizeK sz (looseL s0 (s0.near.take i2)).2 (fat s0.fs k)) c2c)]) (cs := #[.slice Ak (sizeK sz (looseL s0 (s0.near.take i2)).2 (fat s0.fs k)) (sizeK sz (looseL s0 (s0.near.take i2)).2 (fat s0.fs k)), .slice A2c (sizeK sz (looseL s0 (s0.near.take i2)).2 (fat s0.fs k)) c2c]) rfl (by kernel_rfl)) ?_
                refine X.dE (i := 12) (by kernel_rfl) rfl (X.dwN rfl) (X.boxE rfl rfl) (by rintro _ w33 ⟨rfl, hB33, hk33, hz33⟩ _; exact hk33.mono (fun _ _ h => h.elim)) ?_
                rintro _ w33 ⟨rfl, hB33, hk33, hz33⟩
                refine X.dE (i := 13) (by kernel_rfl) rfl (X.dwN rfl) (X.updateV (enc := fun x : Int => Value.int .i64 x) (venc := fun v : Value => v) (a := (o.1.length : Int)) (v := ptrV w32.heap.size) Try.underlying55 (keyInt Try.underlying3) ((((hO.F.ext hx30 (by first | (intro hh; first | exact nn1 hh | exact nn2 hh | exact nn3 hh | exact nn4 hh | exact nn5 hh | exact nn6 hh | exact nn7 hh | exact nn8 hh | exact nn9 hh | exact nna hh | exact nnb hh | exact nnc hh | (rcases hh with hh | hh <;> first | exact nn1 hh | exact nn2 hh | exact nn3 hh | exact nn4 hh | exact nn5 hh | exact nn6 hh | exact nn7 hh | exact nn8 hh | exact nn9 hh | exact nna hh | exact nnb hh | exact nnc hh | omega) | omega) | (intro hh; have hh : _ = _ := hh; omega) | (intros; (try simp only [] at *); omega))).keep hk31).keep hk32).keep hk33) rfl rfl rfl) (fun _ _ _ h => absurd h (by decide)) ?_
                rintro _ w34 ⟨hGf, hxf, hzf⟩
                refine X.dEnd (by kernel_rfl) ?_
                refine X.seq ?_
                refine X.regionD (fun _ => False) 9 (by kernel_rfl) (by kernel_rfl) (fun w35 hk35 hz35 => ?_)
                refine X.dTake 0 rfl (by kernel_rfl) (by kernel_rfl) (by kernel_rfl) (X.dwN rfl) (fun w' hk' => X.move rfl) ?_
                refine X.dTake 1 rfl (by kernel_rfl) (by kernel_rfl) (by kernel_rfl) (X.dwN rfl) (fun w' hk' => X.nilCk rfl) ?_
                refine X.dTake 2 rfl (by kernel_rfl) (by kernel_rfl) (by kernel_rfl) (X.dwN rfl) (fun w' hk' => X.fldB (j := 3) Try.underlying60 rfl rfl Try.sizeOf56 rfl) ?_
                refine X.dTake 3 rfl (by kernel_rfl) (by kernel_rfl) (by kernel_rfl) (X.dwN rfl) (fun w' hk' => X.load1B Try.isAgg56 ((((hO.B.ext hx30 (by first | (intro hh; first | exact nn1 hh | exact nn2 hh | exact nn3 hh | exact nn4 hh | exact nn5 hh | exact nn6 hh | exact nn7 hh | exact nn8 hh | exact nn9 hh | exact nna hh | exact nnb hh | exact nnc hh | (rcases hh with hh | hh <;> first | exact nn1 hh | exact nn2 hh | exact nn3 hh | exact nn4 hh | exact nn5 hh | exact nn6 hh | exact nn7 hh | exact nn8 hh | exact nn9 hh | exact nna hh | exact nnb hh | exact nnc hh | omega) | omega) | (intro hh; have hh : _ = _ := hh; omega) | (intros; (try simp only [] at *); omega))).keep ((hk31.trans hk32).trans hk33)).ext hxf (by first | (intro hh; first | exact nn1 hh | exact nn2 hh | exact nn3 hh | exact nn4 hh | exact nn5 hh | exact nn6 hh | exact nn7 hh | exact nn8 hh | exact nn9 hh | exact nna hh | exact nnb hh | exact nnc hh | (rcases hh with hh | hh <;> first | exact nn1 hh | exact nn2 hh | exact nn3 hh | exact nn4 hh | exact nn5 hh | exact nn6 hh | exact nn7 hh | exact nn8 hh | exact nn9 hh | exact nna hh | exact nnb hh | exact nnc hh | omega) | omega) | (intro hh; have hh : _ = _ := hh; omega) | (intros; (try simp only [] at *); omega))).keep (hk35.trans hk')) rfl rfl) ?_
                refine X.dTake 4 rfl (by kernel_rfl) (by kernel_rfl) (by kernel_rfl) (X.dwN rfl) (fun w' hk' => X.move (v := .string _) rfl) ?_
                refine X.dTake 5 rfl (by kernel_rfl) (by kernel_rfl) (by kernel_rfl) (X.dwN rfl) (fun w' hk' => X.move rfl) ?_
                refine X.dTake 6 rfl (by kernel_rfl) (by kernel_rfl) (by kernel_rfl) (X.dwN rfl) (fun w' hk' => X.nilCk rfl) ?_
                refine X.dTake 7 rfl (by kernel_rfl) (by kernel_rfl) (by kernel_rfl) (X.dwN rfl) (fun w' hk' => X.fldB (j := 2) Try.underlying60 rfl rfl Try.sizeOf3 rfl) ?_
                refine X.dTake 8 rfl (by kernel_rfl) (by kernel_rfl) (by kernel_rfl) (X.dwN rfl) (fun w' hk' => X.load1B Try.isAgg3 ((((hO.B.ext hx30 (by first | (intro hh; first | exact nn1 hh | exact nn2 hh | exact nn3 hh | exact nn4 hh | exact nn5 hh | exact nn6 hh | exact nn7 hh | exact nn8 hh | exact nn9 hh | exact nna hh | exact nnb hh | exact nnc hh | (rcases hh with hh | hh <;> first | exact nn1 hh | exact nn2 hh | exact nn3 hh | exact nn4 hh | exact nn5 hh | exact nn6 hh | exact nn7 hh | exact nn8 hh | exact nn9 hh | exact nna hh | exact nnb hh | exact nnc hh | omega) | omega) | (intro hh; have hh : _ = _ := hh; omega) | (intros; (try simp only [] at *); omega))).keep ((hk31.trans hk32).trans hk33)).ext hxf (by first | (intro hh; first | exact nn1 hh | exact nn2 hh | exact nn3 hh | exact nn4 hh | exact nn5 hh | exact nn6 hh | exact nn7 hh | exact nn8 hh | exact nn9 hh | exact nna hh | exact nnb hh | exact nnc hh | (rcases hh with hh | hh <;> first | exact nn1 hh | exact nn2 hh | exact nn3 hh | exact nn4 hh | exact nn5 hh | exact nn6 hh | exact nn7 hh | exact nn8 hh | exact nn9 hh | exact nna hh | exact nnb hh | exact nnc hh | omega) | omega) | (intro hh; have hh : _ = _ := hh; omega) | (intros; (try simp only [] at *); omega))).keep (hk35.trans hk')) rfl rfl) ?_
                refine X.dE (i := 9) (by kernel_rfl) rfl (X.dwN rfl) (X.updateV (enc := fun x : ByteArray => Value.string x) (venc := fun v : Int => Value.int .i64 v) (a := nm) (v := (o.1.length : Int)) Try.underlying56 (keyStr Try.underlying9) ((((((hO.G.ext hx30 (by first | (intro hh; first | exact nn1 hh | exact nn2 hh | exact nn3 hh | exact nn4 hh | exact nn5 hh | exact nn6 hh | exact nn7 hh | exact nn8 hh | exact nn9 hh | exact nna hh | exact nnb hh | exact nnc hh | (rcases hh with hh | hh <;> first | exact nn1 hh | exact nn2 hh | exact nn3 hh | exact nn4 hh | exact nn5 hh | exact nn6 hh | exact nn7 hh | exact nn8 hh | exact nn9 hh | exact nna hh | exact nnb hh | exact nnc hh | omega) | omega) | (intro hh; have hh : _ = _ := hh; omega) | (intros; (try simp only [] at *); omega))).keep hk31).keep hk32).keep hk33).ext hxf (by first | (intro hh; first | exact nn1 hh | exact nn2 hh | exact nn3 hh | exact nn4 hh | exact nn5 hh | exact nn6 hh | exact nn7 hh | exact nn8 hh | exact nn9 hh | exact nna hh | exact nnb hh | exact nnc hh | (rcases hh with hh | hh <;> first | exact nn1 hh | exact nn2 hh | exact nn3 hh | exact nn4 hh | exact nn5 hh | exact nn6 hh | exact nn7 hh | exact nn8 hh | exact nn9 hh | exact nna hh | exact nnb hh | exact nnc hh | omega) | omega) | (intro hh; have hh : _ = _ := hh; omega) | (intros; (try simp only [] at *); omega))).keep hk35) rfl rfl rfl) (fun _ _ _ h => absurd h (by decide)) ?_
                rintro _ w36 ⟨hGd, hxd, hzd⟩
                refine X.dEnd (by kernel_rfl) ?_
                refine X.region ?_
                refine X.opw X.wN rfl (X.move rfl) ?_
                refine X.opw X.wN rfl (X.nilCk rfl) ?_
                refine X.opw X.wN rfl (X.fldB (j := 2) Try.underlying60 rfl rfl Try.sizeOf3 rfl) ?_
                refine X.opw X.wN rfl (X.load1B Try.isAgg3 (((((hO.B.ext hx30 (by first | (intro hh; first | exact nn1 hh | exact nn2 hh | exact nn3 hh | exact nn4 hh | exact nn5 hh | exact nn6 hh | exact nn7 hh | exact nn8 hh | exact nn9 hh | exact nna hh | exact nnb hh | exact nnc hh | (rcases hh with hh | hh <;> first | exact nn1 hh | exact nn2 hh | exact nn3 hh | exact nn4 hh | exact nn5 hh | exact nn6 hh | exact nn7 hh | exact nn8 hh | exact nn9 hh | exact nna hh | exact nnb hh | exact nnc hh | omega) | omega) | (intro hh; have hh : _ = _ := hh; omega) | (intros; (try simp only [] at *); omega))).keep ((hk31.trans hk32).trans hk33)).ext hxf (by first | (intro hh; first | exact nn1 hh | exact nn2 hh | exact nn3 hh | exact nn4 hh | exact nn5 hh | exact nn6 hh | exact nn7 hh | exact nn8 hh | exact nn9 hh | exact nna hh | exact nnb hh | exact nnc hh | (rcases hh with hh | hh <;> first | exact nn1 hh | exact nn2 hh | exact nn3 hh | exact nn4 hh | exact nn5 hh | exact nn6 hh | exact nn7 hh | exact nn8 hh | exact nn9 hh | exact nna hh | exact nnb hh | exact nnc hh | omega) | omega) | (intro hh; have hh : _ = _ := hh; omega) | (intros; (try simp only [] at *); omega))).keep hk35).ext hxd (by first | (intro hh; first | exact nn1 hh | exact nn2 hh | exact nn3 hh | exact nn4 hh | exact nn5 hh | exact nn6 hh | exact nn7 hh | exact nn8 hh | exact nn9 hh | exact nna hh | exact nnb hh | exact nnc hh | (rcases hh with hh | hh <;> first | exact nn1 hh | exact nn2 hh | exact nn3 hh | exact nn4 hh | exact nn5 hh | exact nn6 hh | exact nn7 hh | exact nn8 hh | exact nn9 hh | exact nna hh | exact nnb hh | exact nnc hh | omega) | omega) | (intro hh; have hh : _ = _ := hh; omega) | (intros; (try simp only [] at *); omega))) rfl rfl) ?_
                refine X.opw X.wN rfl (X.add (c := ((o.1.length : Nat) : Int) + 1) rfl rfl (by show IntKind.i64.wrap ((o.1.length : Int) + 1) = _; exact X.w_i64 (by omega))) ?_
                refine X.opw X.wN rfl (X.nilCk rfl) ?_
                refine X.opw X.wN rfl (X.fldB (j := 2) Try.underlying60 rfl rfl Try.sizeOf3 rfl) ?_
                refine X.opE X.wN rfl (X.storeE Try.sizeOf3 (((((hO.B.ext hx30 (by first | (intro hh; first | exact nn1 hh | exact nn2 hh | exact nn3 hh | exact nn4 hh | exact nn5 hh | exact nn6 hh | exact nn7 hh | exact nn8 hh | exact nn9 hh | exact nna hh | exact nnb hh | exact nnc hh | (rcases hh with hh | hh <;> first | exact nn1 hh | exact nn2 hh | exact nn3 hh | exact nn4 hh | exact nn5 hh | exact nn6 hh | exact nn7 hh | exact nn8 hh | exact nn9 hh | exact nna hh | exact nnb hh | exact nnc hh | omega) | omega) | (intro hh; have hh : _ = _ := hh; omega) | (intros; (try simp only [] at *); omega))).keep ((hk31.trans hk32).trans hk33)).ext hxf (by first | (intro hh; first | exact nn1 hh | exact nn2 hh | exact nn3 hh | exact nn4 hh | exact nn5 hh | exact nn6 hh | exact nn7 hh | exact nn8 hh | exact nn9 hh | exact nna hh | exact nnb hh | exact nnc hh | (rcases hh with hh | hh <;> first | exact nn1 hh | exact nn2 hh | exact nn3 hh | exact nn4 hh | exact nn5 hh | exact nn6 hh | exact nn7 hh | exact nn8 hh | exact nn9 hh | exact nna hh | exact nnb hh | exact nnc hh | omega) | omega) | (intro hh; have hh : _ = _ := hh; omega) | (intros; (try simp only [] at *); omega))).keep hk35).ext hxd (by first | (intro hh; first | exact nn1 hh | exact nn2 hh | exact nn3 hh | exact nn4 hh | exact nn5 hh | exact nn6 hh | exact nn7 hh | exact nn8 hh | exact nn9 hh | exact nna hh | exact nnb hh | exact nnc hh | (rcases hh with hh | hh <;> first | exact nn1 hh | exact nn2 hh | exact nn3 hh | exact nn4 hh | exact nn5 hh | exact nn6 hh | exact nn7 hh | exact nn8 hh | exact nn9 hh | exact nna hh | exact nnb hh | exact nnc hh | omega) | omega) | (intro hh; have hh : _ = _ := hh; omega) | (intros; (try simp only [] at *); omega))) rfl rfl rfl rfl) ?_
                rintro _ w37 ⟨hB37, hx37, hz37⟩
                refine X.opsEnd ?_
                refine X.inBlock ?_
                refine X.region ?_
                refine X.opw X.wN rfl (X.add (c := ((i2 + 1 : Nat) : Int)) rfl rfl (by rw [X.w_i64 (by omega)]; omega)) ?_
                refine X.opw X.wN rfl (X.move (v := .int .i64 _) rfl) ?_
                refine X.opsEnd ?_
                have hX := (Ext.andThen (Ext.andThen (Ext.andThen (Ext.andThen (Ext.andThen (Ext.andThen (Ext.andThen (Ext.andThen (Ext.refl (fun q => co2 q ≤ 3) _) hx30 (by intro q h1 h2; first | exact (h2 : False).elim | (have h2 : q = _ := h2; subst h2; omega) | (rcases h2 with h2 | h2 <;> (subst h2; omega)))) hk31 (by intro q h1 h2; first | exact (h2 : False).elim | (have h2 : q = _ := h2; subst h2; omega) | (rcases h2 with h2 | h2 <;> (subst h2; omega)))) hk32 (by intro q h1 h2; first | exact (h2 : False).elim | (have h2 : q = _ := h2; subst h2; omega) | (rcases h2 with h2 | h2 <;> (subst h2; omega)))) hk33 (by intro q h1 h2; first | exact (h2 : False).elim | (have h2 : q = _ := h2; subst h2; omega) | (rcases h2 with h2 | h2 <;> (subst h2; omega)))) hxf (by intro q h1 h2; first | exact (h2 : False).elim | (have h2 : q = _ := h2; subst h2; omega) | (rcases h2 with h2 | h2 <;> (subst h2; omega)))) hk35 (by intro q h1 h2; first | exact (h2 : False).elim | (have h2 : q = _ := h2; subst h2; omega) | (rcases h2 with h2 | h2 <;> (subst h2; omega)))) hxd (by intro q h1 h2; first | exact (h2 : False).elim | (have h2 : q = _ := h2; subst h2; omega) | (rcases h2 with h2 | h2 <;> (subst h2; omega)))) hx37 (by intro q h1 h2; first | exact (h2 : False).elim | (have h2 : q = _ := h2; subst h2; omega) | (rcases h2 with h2 | h2 <;> (subst h2; omega))))
                have hF9 := (((hGf.keep hk35).ext hxd (by first | (intro hh; first | exact nn1 hh | exact nn2 hh | exact nn3 hh | exact nn4 hh | exact nn5 hh | exact nn6 hh | exact nn7 hh | exact nn8 hh | exact nn9 hh | exact nna hh | exact nnb hh | exact nnc hh | (rcases hh with hh | hh <;> first | exact nn1 hh | exact nn2 hh | exact nn3 hh | exact nn4 hh | exact nn5 hh | exact nn6 hh | exact nn7 hh | exact nn8 hh | exact nn9 hh | exact nna hh | exact nnb hh | exact nnc hh | omega) | omega) | (intro hh; have hh : _ = _ := hh; omega) | (intros; (try simp only [] at *); omega))).ext hx37 (by first | (intro hh; first | exact nn1 hh | exact nn2 hh | exact nn3 hh | exact nn4 hh | exact nn5 hh | exact nn6 hh | exact nn7 hh | exact nn8 hh | exact nn9 hh | exact nna hh | exact nnb hh | exact nnc hh | (rcases hh with hh | hh <;> first | exact nn1 hh | exact nn2 hh | exact nn3 hh | exact nn4 hh | exact nn5 hh | exact nn6 hh | exact nn7 hh | exact nn8 hh | exact nn9 hh | exact nna hh | exact nnb hh | exact nnc hh | omega) | omega) | (intro hh; have hh : _ = _ := hh; omega) | (intros; (try simp only [] at *); omega)))
                have hG9 := (hGd.ext hx37 (by first | (intro hh; first | exact nn1 hh | exact nn2 hh | exact nn3 hh | exact nn4 hh | exact nn5 hh | exact nn6 hh | exact nn7 hh | exact nn8 hh | exact nn9 hh | exact nna hh | exact nnb hh | exact nnc hh | (rcases hh with hh | hh <;> first | exact nn1 hh | exact nn2 hh | exact nn3 hh | exact nn4 hh | exact nn5 hh | exact nn6 hh | exact nn7 hh | exact nn8 hh | exact nn9 hh | exact nna hh | exact nnb hh | exact nnc hh | omega) | omega) | (intro hh; have hh : _ = _ := hh; omega) | (intros; (try simp only [] at *); omega)))
                have hR9 := (((((((hRk.keep hk31).keep hk32).keep hk33).ext hxf (by intros; omega) (by intro q g1 g2; (try simp only [] at g1); have g2 : q = _ := g2; omega)).keep hk35).ext hxd (by intros; omega) (by intro q g1 g2; (try simp only [] at g1); have g2 : q = _ := g2; omega)).ext hx37 (by intros; omega) (by intro q g1 g2; (try simp only [] at g1); have g2 : q = _ := g2; omega))
                have hM9 := (((((hMcc.keep hk33).ext hxf (by intros; omega) (by intro q g1 g2; (try simp only [] at g1); have g2 : q = _ := g2; omega)).keep hk35).ext hxd (by intros; omega) (by intro q g1 g2; (try simp only [] at g1); have g2 : q = _ := g2; omega)).ext hx37 (by intros; omega) (by intro q g1 g2; (try simp only [] at g1); have g2 : q = _ := g2; omega))
                obtain ⟨co3, hO3, hc3⟩ := hO.addF (f := ((keptB kp (looseL s0 (s0.near.take i2)).1 (s0.spots k) (fat s0.fs k) (sizeK sz (looseL s0 (s0.near.take i2)).2 (fat s0.fs k))), (keptB kp (looseL s0 (s0.near.take i2)).1 (s0.spots k) (fat s0.fs k) (sizeK sz (looseL s0 (s0.near.take i2)).2 (fat s0.fs k))))) (d' := put nm (o.1.length : Int) o.2) (p := w32.heap.size) (h1 := w31.heap.size) (h2 := w32.heap.size) (A1n := 0) hX hB37 hF9 hG9 (by omega) (by omega) (by omega) (by omega) ((((hB33.ext hxf (by first | (intro hh; first | exact nn1 hh | exact nn2 hh | exact nn3 hh | exact nn4 hh | exact nn5 hh | exact nn6 hh | exact nn7 hh | exact nn8 hh | exact nn9 hh | exact nna hh | exact nnb hh | exact nnc hh | (rcases hh with hh | hh <;> first | exact nn1 hh | exact nn2 hh | exact nn3 hh | exact nn4 hh | exact nn5 hh | exact nn6 hh | exact nn7 hh | exact nn8 hh | exact nn9 hh | exact nna hh | exact nnb hh | exact nnc hh | omega) | omega) | (intro hh; have hh : _ = _ := hh; omega) | (intros; (try simp only [] at *); omega))).keep hk35).ext hxd (by first | (intro hh; first | exact nn1 hh | exact nn2 hh | exact nn3 hh | exact nn4 hh | exact nn5 hh | exact nn6 hh | exact nn7 hh | exact nn8 hh | exact nn9 hh | exact nna hh | exact nnb hh | exact nnc hh | (rcases hh with hh | hh <;> first | exact nn1 hh | exact nn2 hh | exact nn3 hh | exact nn4 hh | exact nn5 hh | exact nn6 hh | exact nn7 hh | exact nn8 hh | exact nn9 hh | exact nna hh | exact nnb hh | exact nnc hh | omega) | omega) | (intro hh; have hh : _ = _ := hh; omega) | (intros; (try simp only [] at *); omega))).ext hx37 (by first | (intro hh; first | exact nn1 hh | exact nn2 hh | exact nn3 hh | exact nn4 hh | exact nn5 hh | exact nn6 hh | exact nn7 hh | exact nn8 hh | exact nn9 hh | exact nna hh | exact nnb hh | exact nnc hh | (rcases hh with hh | hh <;> first | exact nn1 hh | exact nn2 hh | exact nn3 hh | exact nn4 hh | exact nn5 hh | exact nn6 hh | exact nn7 hh | exact nn8 hh | exact nn9 hh | exact nna hh | exact nnb hh | exact nnc hh | omega) | omega) | (intro hh; have hh : _ = _ := hh; omega) | (intros; (try simp only [] at *); omega))) (hR9.mono (fun q _ g => ⟨by omega, by omega⟩)) (hM9.mono (fun q _ g => ⟨by omega, by omega⟩))
                refine hback (i2 + 1, (o.1 ++ [((keptB kp (looseL s0 (s0.near.take i2)).1 (s0.spots k) (fat s0.fs k) (sizeK sz (looseL s0 (s0.near.take i2)).2 (fat s0.fs k))), (keptB kp (looseL s0 (s0.near.take i2)).1 (s0.spots k) (fat s0.fs k) (sizeK sz (looseL s0 (s0.near.take i2)).2 (fat s0.fs k))))], put nm (o.1.length : Int) o.2)) _ _ ⟨rfl, rfl, rfl, rfl, rfl, rfl, rfl, rfl, trivial⟩ ⟨co3, pt2 ++ [w32.heap.size], by (dsimp only); omega, hO3, (fun q hq => if g : q < wm.heap.size then hco2 q (by rw [← hc3 q g]; exact hq) else (by omega)), (by rw [hc3 _ (by omega)]; exact hcn1), (by rw [hc3 _ (by omega)]; exact hcs1), (by rw [hc3 _ (by omega)]; exact hcz1), (fun q a1 a2 => by rw [hc3 _ (by omega)]; exact hcr q a1 a2), by (dsimp only); rw [hs1, hs2]; rw [← hlf9, drop_cons hxk, loseF, hnn2], (by rw [hs1]; exact (((((kBs.keep ((hk31.trans hk32).trans hk33)).ext hxf (by first | (intro hh; first | exact nn1 hh | exact nn2 hh | exact nn3 hh | exact nn4 hh | exact nn5 hh | exact nn6 hh | exact nn7 hh | exact nn8 hh | exact nn9 hh | exact nna hh | exact nnb hh | exact nnc hh | (rcases hh with hh | hh <;> first | exact nn1 hh | exact nn2 hh | exact nn3 hh | exact nn4 hh | exact nn5 hh | exact nn6 hh | exact nn7 hh | exact nn8 hh | exact nn9 hh | exact nna hh | exact nnb hh | exact nnc hh | omega) | omega) | (intro hh; have hh : _ = _ := hh; omega) | (intros; (try simp only [] at *); omega))).keep hk35).ext hxd (by first | (intro hh; first | exact nn1 hh | exact nn2 hh | exact nn3 hh | exact nn4 hh | exact nn5 hh | exact nn6 hh | exact nn7 hh | exact nn8 hh | exact nn9 hh | exact nna hh | exact nnb hh | exact nnc hh | (rcases hh with hh | hh <;> first | exact nn1 hh | exact nn2 hh | exact nn3 hh | exact nn4 hh | exact nn5 hh | exact nn6 hh | exact nn7 hh | exact nn8 hh | exact nn9 hh | exact nna hh | exact nnb hh | exact nnc hh | omega) | omega) | (intro hh; have hh : _ = _ := hh; omega) | (intros; (try simp only [] at *); omega))).ext hx37 (by first | (intro hh; first | exact nn1 hh | exact nn2 hh | exact nn3 hh | exact nn4 hh | exact nn5 hh | exact nn6 hh | exact nn7 hh | exact nn8 hh | exact nn9 hh | exact nna hh | exact nnb hh | exact nnc hh | (rcases hh with hh | hh <;> first | exact nn1 hh | exact nn2 hh | exact nn3 hh | exact nn4 hh | exact nn5 hh | exact nn6 hh | exact nn7 hh | exact nn8 hh | exact nn9 hh | exact nna hh | exact nnb hh | exact nnc hh | omega) | omega) | (intro hh; have hh : _ = _ := hh; omega) | (intros; (try simp only [] at *); omega)))), (by rw [hs2]; exact (((((kBz.keep ((hk31.trans hk32).trans hk33)).ext hxf (by first | (intro hh; first | exact nn1 hh | exact nn2 hh | exact nn3 hh | exact nn4 hh | exact nn5 hh | exact nn6 hh | exact nn7 hh | exact nn8 hh | exact nn9 hh | exact nna hh | exact nnb hh | exact nnc hh | (rcases hh with hh | hh <;> first | exact nn1 hh | exact nn2 hh | exact nn3 hh | exact nn4 hh | exact nn5 hh | exact nn6 hh | exact nn7 hh | exact nn8 hh | exact nn9 hh | exact nna hh | exact nnb hh | exact nnc hh | omega) | omega) | (intro hh; have hh : _ = _ := hh; omega) | (intros; (try simp only [] at *); omega))).keep hk35).ext hxd (by first | (intro hh; first | exact nn1 hh | exact nn2 hh | exact nn3 hh | exact nn4 hh | exact nn5 hh | exact nn6 hh | exact nn7 hh | exact nn8 hh | exact nn9 hh | exact nna hh | exact nnb hh | exact nnc hh | (rcases hh with hh | hh <;> first | exact nn1 hh | exact nn2 hh | exact nn3 hh | exact nn4 hh | exact nn5 hh | exact nn6 hh | exact nn7 hh | exact nn8 hh | exact nn9 hh | exact nna hh | exact nnb hh | exact nnc hh | omega) | omega) | (intro hh; have hh : _ = _ := hh; omega) | (intros; (try simp only [] at *); omega))).ext hx37 (by first | (intro hh; first | exact nn1 hh | exact nn2 hh | exact nn3 hh | exact nn4 hh | exact nn5 hh | exact nn6 hh | exact nn7 hh | exact nn8 hh | exact nn9 hh | exact nna hh | exact nnb hh | exact nnc hh | (rcases hh with hh | hh <;> first | exact nn1 hh | exact nn2 hh | exact nn3 hh | exact nn4 hh | exact nn5 hh | exact nn6 hh | exact nn7 hh | exact nn8 hh | exact nn9 hh | exact nna hh | exact nnb hh | exact nnc hh | omega) | omega) | (intro hh; have hh : _ = _ := hh; omega) | (intros; (try simp only [] at *); omega)))), ((((((hGm.ext hx30 (by first | (intro hh; first | exact nn1 hh | exact nn2 hh | exact nn3 hh | exact nn4 hh | exact nn5 hh | exact nn6 hh | exact nn7 hh | exact nn8 hh | exact nn9 hh | exact nna hh | exact nnb hh | exact nnc hh | (rcases hh with hh | hh <;> first | exact nn1 hh | exact nn2 hh | exact nn3 hh | exact nn4 hh | exact nn5 hh | exact nn6 hh | exact nn7 hh | exact nn8 hh | exact nn9 hh | exact nna hh | exact nnb hh | exact nnc hh | omega) | omega) | (intro hh; have hh : _ = _ := hh; omega) | (intros; (try simp only [] at *); omega))).keep ((hk31.trans hk32).trans hk33)).ext hxf (by first | (intro hh; first | exact nn1 hh | exact nn2 hh | exact nn3 hh | exact nn4 hh | exact nn5 hh | exact nn6 hh | exact nn7 hh | exact nn8 hh | exact nn9 hh | exact nna hh | exact nnb hh | exact nnc hh | (rcases hh with hh | hh <;> first | exact nn1 hh | exact nn2 hh | exact nn3 hh | exact nn4 hh | exact nn5 hh | exact nn6 hh | exact nn7 hh | exact nn8 hh | exact nn9 hh | exact nna hh | exact nnb hh | exact nnc hh | omega) | omega) | (intro hh; have hh : _ = _ := hh; omega) | (intros; (try simp only [] at *); omega))).keep hk35).ext hxd (by first | (intro hh; first | exact nn1 hh | exact nn2 hh | exact nn3 hh | exact nn4 hh | exact nn5 hh | exact nn6 hh | exact nn7 hh | exact nn8 hh | exact nn9 hh | exact nna hh | exact nnb hh | exact nnc hh | (rcases hh with hh | hh <;> first | exact nn1 hh | exact nn2 hh | exact nn3 hh | exact nn4 hh | exact nn5 hh | exact nn6 hh | exact nn7 hh | exact nn8 hh | exact nn9 hh | exact nna hh | exact nnb hh | exact nnc hh | omega) | omega) | (intro hh; have hh : _ = _ := hh; omega) | (intros; (try simp only [] at *); omega))).ext hx37 (by first | (intro hh; first | exact nn1 hh | exact nn2 hh | exact nn3 hh | exact nn4 hh | exact nn5 hh | exact nn6 hh | exact nn7 hh | exact nn8 hh | exact nn9 hh | exact nna hh | exact nnb hh | exact nnc hh | (rcases hh with hh | hh <;> first | exact nn1 hh | exact nn2 hh | exact nn3 hh | exact nn4 hh | exact nn5 hh | exact nn6 hh | exact nn7 hh | exact nn8 hh | exact nn9 hh | exact nna hh | exact nnb hh | exact nnc hh | omega) | omega) | (intro hh; have hh : _ = _ := hh; omega) | (intros; (try simp only [] at *); omega))), ((((((((hSn.ext hx30 (by intro q g1 g2 g3; have g4 := hcr q g1 g2; first | omega | (have g3 : q = _ := g3; subst g3; omega) | (rcases g3 with g3 | g3 <;> first | omega | (subst g3; omega)))).keep hk31).keep hk32).keep hk33).ext hxf (by intro q g1 g2 g3; have g4 := hcr q g1 g2; first | omega | (have g3 : q = _ := g3; subst g3; omega) | (rcases g3 with g3 | g3 <;> first | omega | (subst g3; omega)))).keep hk35).ext hxd (by intro q g1 g2 g3; have g4 := hcr q g1 g2; first | omega | (have g3 : q = _ := g3; subst g3; omega) | (rcases g3 with g3 | g3 <;> first | omega | (subst g3; omega)))).ext hx37 (by intro q g1 g2 g3; have g4 := hcr q g1 g2; first | omega | (have g3 : q = _ := g3; subst g3; omega) | (rcases g3 with g3 | g3 <;> first | omega | (subst g3; omega)))), by (dsimp only); rw [List.length_append]; simp; omega, (by omega), ((((((((hkm.step hx30 (by intros; (try simp only [] at *); omega)).trans hk31).trans hk32).trans hk33).step hxf (by intros; (try simp only [] at *); omega)).trans hk35).step hxd (by intros; (try simp only [] at *); omega)).step hx37 (by intros; (try simp only [] at *); omega))⟩ (by (dsimp only); omega)
            · refine X.opsEnd ?_
              refine X.seq ?_
              refine X.condF rfl ?_
              refine X.exit rfl ?_
              refine X.seq ?_
              refine X.region ?_
              refine X.opw X.wN rfl (X.move rfl) ?_
              refine X.opw X.wN rfl (X.move rfl) ?_
              refine X.opw X.wN rfl (X.nilCk rfl) ?_
              refine X.opw X.wN rfl (X.fldB (j := 3) Try.underlying60 rfl rfl Try.sizeOf56 rfl) ?_
              refine X.opw X.wN rfl (X.load1B Try.isAgg56 hO.B rfl rfl) ?_
              refine X.opE X.wN rfl (X.callE (mapClone_c _ hO.G) Try.call35 rfl rfl) ?_
              rintro _ w38 ⟨rfl, gX, hk38, hz38⟩
              refine X.opw X.wN rfl (X.nilCk rfl) ?_
              refine X.opw X.wN rfl (X.fldB (j := 4) Try.underlying60 rfl rfl Try.sizeOf56 rfl) ?_
              refine X.opE X.wN rfl (X.storeE Try.sizeOf56 (hO.B.keep hk38) rfl rfl rfl rfl) ?_
              rintro _ w39 ⟨hB39, hx39, hz39⟩
              refine X.opsEnd ?_
              refine X.seq ?_
              refine X.region ?_
              refine X.opw X.wN rfl (X.move rfl) ?_
              refine X.opw X.wN rfl (X.assign rfl) ?_
              refine X.opw X.wN rfl (X.assign rfl) ?_
              refine X.opsEnd ?_
              refine X.ret2 (v2 := (.int .i64 _)) Try.func14 Try.results14 rfl rfl ?_
              have hfin : o = s0.left dn kp sz := by
                have : s0.near.drop i2 = [] := List.drop_of_length_le (by omega)
                rw [this] at hlf9; exact hlf9
              have hX := (Ext.andThen (Ext.andThen (Ext.refl (fun q => co2 q = 1) _) hk38 (by intro q h1 h2; first | exact (h2 : False).elim | (have h2 : q = _ := h2; subst h2; exact o1))) hx39 (by intro q h1 h2; first | exact (h2 : False).elim | (have h2 : q = _ := h2; subst h2; exact o1)))
              have hXs := hX.size
              obtain ⟨co3, hcol⟩ : ∃ co3, co3 = rec' co2 wm.heap.size w39.heap.size 4 := ⟨_, rfl⟩
              have hold : ∀ q, q < wm.heap.size → co3 q = co2 q := fun q hq => by rw [hcol]; exact rec_old hq
              have P := hO.part (col' := co3) (fun v => v = 1) hX hold (fun q hq ht => ht)
              refine ⟨((hkm.trans hk38).step hx39 (by intros; (try simp only [] at *); omega)), .inr ⟨by omega, bo, co3, rfl, ?_, fun q hq => ?_⟩⟩
              · rw [Int.toNat_natCast, DS.lose, ← hfin]
                exact ⟨bfo, bdo, wm.heap.size, blo, none, 0, 0, pt2, hB39, P.F (by decide), P.G (by decide), (gX.ext hx39 (by first | (intro hh; first | exact nn1 hh | exact nn2 hh | exact nn3 hh | exact nn4 hh | exact nn5 hh | exact nn6 hh | exact nn7 hh | exact nn8 hh | exact nn9 hh | exact nna hh | exact nnb hh | exact nnc hh | (rcases hh with hh | hh <;> first | exact nn1 hh | exact nn2 hh | exact nn3 hh | exact nn4 hh | exact nn5 hh | exact nn6 hh | exact nn7 hh | exact nn8 hh | exact nn9 hh | exact nna hh | exact nnb hh | exact nnc hh | omega) | omega) | (intro hh; have hh : _ = _ := hh; omega) | (intros; (try simp only [] at *); omega))), P.L (by decide), P.M (by decide), P.cb, P.cf, P.cd, (by rw [hcol]; exact rec_new (by omega) (by omega)), P.cl, (fun q hq => by rw [hcol] at hq; exact rec_lt hO.lt hXs hq), P.pl, fun k q f a1 a2 => P.fl k q f a1 a2 (fun j _ _ => by omega)⟩
              · by_cases g : q < wm.heap.size
                · have := hco2 q (by rw [← hold q g]; exact hq)
                  omega
                · omega
        · have hx12' := hx12.size
          obtain ⟨q, hq, rfl⟩ : ∃ q : ByteArray × Int, q ∈ (tns (s0.chs.take dn) s0.fx) ∧ p12 = (q.1, Value.int .i64 q.2) := by
            obtain ⟨q, hq, e⟩ := List.mem_map.1 hp12
            exact ⟨q, hq, e.symm⟩
          dsimp only at hpn12 hI12
          refine X.opw X.wN rfl (X.extr rfl rfl) ?_
          refine X.opsEnd ?_
          refine X.seq ?_
          refine X.condT rfl ?_
          refine X.skip ?_
          refine X.block ?_
          refine X.seq ?_
          refine X.region ?_
          refine X.opw X.wN rfl (X.entryE hI12 hp12 rfl) ?_
          refine X.opw X.wN rfl (X.extr rfl rfl) ?_
          refine X.opw X.wN rfl (X.extr rfl rfl) ?_
          refine X.opw X.wN rfl (X.assign (v := .string _) rfl) ?_
          refine X.opw X.wN rfl (X.assign (v := .int .i64 _) rfl) ?_
          refine X.opsEnd ?_
          refine X.region ?_
          refine X.opw X.wN rfl (X.move rfl) ?_
          refine X.opw X.wN rfl (X.move (v := .int .i64 _) rfl) ?_
          refine X.opw X.wN rfl (X.move (v := .string _) rfl) ?_
          refine X.opE X.wN rfl (X.updateV (enc := fun x : Int => Value.int .i64 x) (venc := fun v : ByteArray => Value.string v) (a := q.2) (v := q.1) Try.underlying88 (keyInt Try.underlying3) (hG1.ext hx12 (by first | (intro hh; first | exact nn1 hh | exact nn2 hh | exact nn3 hh | exact nn4 hh | exact nn5 hh | exact nn6 hh | exact nn7 hh | exact nn8 hh | exact nn9 hh | exact nna hh | exact nnb hh | exact nnc hh | (rcases hh with hh | hh <;> first | exact nn1 hh | exact nn2 hh | exact nn3 hh | exact nn4 hh | exact nn5 hh | exact nn6 hh | exact nn7 hh | exact nn8 hh | exact nn9 hh | exact nna hh | exact nnb hh | exact nnc hh | omega) | omega) | (intro hh; have hh : _ = _ := hh; omega) | (intros; (try simp only [] at *); omega))) rfl rfl rfl) ?_
          rintro _ w40 ⟨hGn, hxn, hzn⟩
          refine X.opsEnd ?_
          refine X.inBlock ?_
          refine hback (q.1 :: ds, put q.2 q.1 nl) _ _ ⟨rfl, rfl, rfl, rfl, rfl, trivial⟩ ⟨(hI12.ext hxn (by first | (intro hh; first | exact nn1 hh | exact nn2 hh | exact nn3 hh | exact nn4 hh | exact nn5 hh | exact nn6 hh | exact nn7 hh | exact nn8 hh | exact nn9 hh | exact nna hh | exact nnb hh | exact nnc hh | (rcases hh with hh | hh <;> first | exact nn1 hh | exact nn2 hh | exact nn3 hh | exact nn4 hh | exact nn5 hh | exact nn6 hh | exact nn7 hh | exact nn8 hh | exact nn9 hh | exact nna hh | exact nnb hh | exact nnc hh | omega) | omega) | (intro hh; have hh : _ = _ := hh; omega) | (intros; (try simp only [] at *); omega)) (by first | (intro hh; first | exact nn1 hh | exact nn2 hh | exact nn3 hh | exact nn4 hh | exact nn5 hh | exact nn6 hh | exact nn7 hh | exact nn8 hh | exact nn9 hh | exact nna hh | exact nnb hh | exact nnc hh | (rcases hh with hh | hh <;> first | exact nn1 hh | exact nn2 hh | exact nn3 hh | exact nn4 hh | exact nn5 hh | exact nn6 hh | exact nn7 hh | exact nn8 hh | exact nn9 hh | exact nna hh | exact nnb hh | exact nnc hh | omega) | omega) | (intro hh; have hh : _ = _ := hh; omega) | (intros; (try simp only [] at *); omega))), hGn, (fun k nm => by
              (dsimp only)
              rw [asc_put]
              by_cases e : k = q.2
              · rw [if_pos e]
                constructor
                · intro e2; injection e2 with e2; subst e2 e; exact ⟨List.mem_cons_self, hq⟩
                · rintro ⟨_, h2⟩; have h3 := (nameOf_some (hinj dn)).2 h2; have h4 := (nameOf_some (hinj dn)).2 hq; rw [e, h4] at h3; exact h3
              · rw [if_neg e, hnl]
                constructor
                · rintro ⟨h1, h2⟩; exact ⟨List.mem_cons_of_mem _ h1, h2⟩
                · rintro ⟨h1, h2⟩
                  rcases List.mem_cons.1 h1 with e2 | h1
                  · exfalso; apply e; have h3 := asc_mem hdn h2; have h4 := asc_mem hdn hq; rw [e2, h4] at h3; injection h3 with h3; exact h3.symm
                  · exact ⟨h1, h2⟩), List.nodup_cons.2 ⟨hpn12, hnd⟩, (fun a ha => (List.mem_cons.1 ha).elim (fun e => by rw [e]; exact List.mem_map.2 ⟨q, hq, rfl⟩) (hin a)), ((hBc1.ext hx12 (by first | (intro hh; first | exact nn1 hh | exact nn2 hh | exact nn3 hh | exact nn4 hh | exact nn5 hh | exact nn6 hh | exact nn7 hh | exact nn8 hh | exact nn9 hh | exact nna hh | exact nnb hh | exact nnc hh | (rcases hh with hh | hh <;> first | exact nn1 hh | exact nn2 hh | exact nn3 hh | exact nn4 hh | exact nn5 hh | exact nn6 hh | exact nn7 hh | exact nn8 hh | exact nn9 hh | exact nna hh | exact nnb hh | exact nnc hh | omega) | omega) | (intro hh; have hh : _ = _ := hh; omega) | (intros; (try simp only [] at *); omega))).ext hxn (by first | (intro hh; first | exact nn1 hh | exact nn2 hh | exact nn3 hh | exact nn4 hh | exact nn5 hh | exact nn6 hh | exact nn7 hh | exact nn8 hh | exact nn9 hh | exact nna hh | exact nnb hh | exact nnc hh | (rcases hh with hh | hh <;> first | exact nn1 hh | exact nn2 hh | exact nn3 hh | exact nn4 hh | exact nn5 hh | exact nn6 hh | exact nn7 hh | exact nn8 hh | exact nn9 hh | exact nna hh | exact nnb hh | exact nnc hh | omega) | omega) | (intro hh; have hh : _ = _ := hh; omega) | (intros; (try simp only [] at *); omega))), ((hO1.ext hx12 (by intro q g1 g2; have := hO1l q g1; have g2 : q = _ := g2; have := hOl q; omega)).ext hxn (by intro q g1 g2; have := hO1l q g1; have g2 : q = _ := g2; have := hOl q; omega)), ((hkn.step hx12 (by intros; (try simp only [] at *); omega)).step hxn (by intros; (try simp only [] at *); omega))⟩ (by have := nodup_len (ks := (tns (s0.chs.take dn) s0.fx).map (·.1)) (List.nodup_cons.2 ⟨hpn12, hnd⟩) (fun a ha => (List.mem_cons.1 ha).elim (fun e => by rw [e]; exact List.mem_map.2 ⟨q, hq, rfl⟩) (hin a)); simp only [List.length_map, List.length_cons] at this ⊢; omega)
end Go.Proofs.Ytcdebnppbnmmgaa

namespace Go.Proofs.Ytcdebnppbnmmgaa
open Go Go.Proofs.Ytcdebnppbnmmgaa.X
set_option linter.unusedVariables false
set_option linter.unusedSimpArgs false
theorem put_mem {κ ν : Type} [DecidableEq κ] {x : κ} {v : ν} : ∀ {m : List (κ × ν)} {p : κ × ν}, p ∈ put x v m → p = (x, v) ∨ p ∈ m
  | [], p, h => by simp [put] at h; exact .inl h
  | (a, u) :: m, p, h => by
    rw [put] at h
    split at h
    · rename_i e
      rcases List.mem_cons.1 h with h | h
      · exact .inl (by rw [h, e])
      · exact .inr (List.mem_cons_of_mem _ h)
    · rcases List.mem_cons.1 h with h | h
      · exact .inr (by rw [h]; exact List.mem_cons_self)
      · exact (put_mem h).imp id (List.mem_cons_of_mem _)
theorem put_len {κ ν : Type} [DecidableEq κ] (x : κ) (v : ν) : ∀ m : List (κ × ν), (put x v m).length ≤ m.length + 1
  | [] => by simp [put]
  | (a, u) :: m => by
    rw [put]
    split
    · simp
    · have := put_len x v m; simp; omega
theorem del_len {κ ν : Type} [DecidableEq κ] {x : κ} : ∀ {m : List (κ × ν)}, x ∈ m.map (·.1) → (del x m).length + 1 = m.length
  | [], h => by simp at h
  | (a, u) :: m, h => by
    rw [del]
    split
    · simp
    · rename_i e
      have : x ∈ m.map (·.1) := by
        simp only [List.map_cons, List.mem_cons] at h
        exact h.resolve_left e
      have := del_len this
      simp; omega
theorem put_inj {κ ν : Type} [DecidableEq κ] {x : κ} {v : ν} : ∀ {m : List (κ × ν)}, (m.map (·.2)).Nodup → v ∉ m.map (·.2) → ((put x v m).map (·.2)).Nodup
  | [], _, _ => by simp [put]
  | (a, u) :: m, hn, hv => by
    simp only [List.map_cons, List.nodup_cons, List.mem_cons, not_or] at hn hv
    rw [put]
    split
    · simp only [List.map_cons, List.nodup_cons]; exact ⟨hv.2, hn.2⟩
    · simp only [List.map_cons, List.nodup_cons]
      refine ⟨fun h => ?_, put_inj hn.2 hv.2⟩
      obtain ⟨p, hp, e⟩ := List.mem_map.1 h
      rcases put_mem hp with rfl | hp
      · exact hv.1 e
      · exact hn.1 (by rw [← e]; exact List.mem_map.2 ⟨p, hp, rfl⟩)
theorem del_val {d : DIR} {nm : ByteArray} {k : Int} (hk : (d.map (·.1)).Nodup) (hn : (d.map (·.2)).Nodup) (h : asc nm d = some k) : k ∉ (del nm d).map (·.2) := by
  intro hm
  obtain ⟨p, hp, e⟩ := List.mem_map.1 hm
  rw [del_eq hk] at hp
  obtain ⟨h1, h2⟩ := List.mem_filter.1 hp
  have h3 : p.1 ≠ nm := by simpa using h2
  have e1 := (nameOf_some hn (k := k) (nm := p.1)).2 (by rw [← e]; exact h1)
  have e2 := (nameOf_some hn (k := k) (nm := nm)).2 (asc_some h)
  rw [e1] at e2
  injection e2 with e2
  exact h3 e2
theorem trn_eq (c : CHG) (d : DIR) : trn c d = if c.2.1 = ⟨#[]⟩ then (if c.1 = ⟨#[]⟩ then d else del c.1 d) else put c.2.1 c.2.2 (if c.1 = ⟨#[]⟩ then d else del c.1 d) := rfl
theorem trn_ne {c : CHG} {d : DIR} (h : ∀ p, p ∈ d → p.1 ≠ ⟨#[]⟩) : ∀ p, p ∈ trn c d → p.1 ≠ ⟨#[]⟩ := by
  have h1 : ∀ p, p ∈ (if c.1 = ⟨#[]⟩ then d else del c.1 d) → p.1 ≠ ⟨#[]⟩ := fun p hp => by
    split at hp
    · exact h p hp
    · exact h p ((del_sub d).subset hp)
  intro p hp
  rw [trn_eq] at hp
  split at hp
  · exact h1 p hp
  · rename_i e
    rcases put_mem hp with rfl | hp
    · exact e
    · exact h1 p hp
theorem tns_ne : ∀ {cs : List CHG} {d : DIR}, (∀ p, p ∈ d → p.1 ≠ ⟨#[]⟩) → ∀ p, p ∈ tns cs d → p.1 ≠ ⟨#[]⟩
  | [], _, h => h
  | c :: cs, d, h => tns_ne (cs := cs) (trn_ne (c := c) h)
/-- Names and files that may be. -/
def DirOk (n : Nat) (d : DIR) : Prop := (∀ p, p ∈ d → 0 ≤ p.2 ∧ p.2 < (n : Int) ∧ p.1.size ≤ 64) ∧ (d.map (·.1)).Nodup
theorem DirOk.trn {n : Nat} {d : DIR} (h : DirOk n d) {c : CHG} (hc : c.2.1 ≠ ⟨#[]⟩ → 0 ≤ c.2.2 ∧ c.2.2 < (n : Int) ∧ c.2.1.size ≤ 64) : DirOk n (trn c d) := by
  have h1 : DirOk n (if c.1 = ⟨#[]⟩ then d else del c.1 d) := by
    split
    · exact h
    · exact ⟨fun p hp => h.1 p ((del_sub d).subset hp), del_nodup h.2⟩
  rw [trn_eq]
  split
  · exact h1
  · rename_i e
    refine ⟨fun p hp => ?_, put_nodup h1.2⟩
    rcases put_mem hp with rfl | hp
    · exact hc e
    · exact h1.1 p hp
theorem DirOk.tns {n : Nat} : ∀ {cs : List CHG} {d : DIR}, DirOk n d → (∀ c, c ∈ cs → c.2.1 ≠ ⟨#[]⟩ → 0 ≤ c.2.2 ∧ c.2.2 < (n : Int) ∧ c.2.1.size ≤ 64) → DirOk n (tns cs d)
  | [], _, h, _ => h
  | c :: cs, d, h, hc => DirOk.tns (cs := cs) (h.trn (hc c List.mem_cons_self)) fun x hx => hc x (List.mem_cons_of_mem _ hx)
theorem tns_app (cs : List CHG) (c : CHG) (d : DIR) : tns (cs ++ [c]) d = trn c (tns cs d) := by rw [tns, List.foldl_append]; rfl
/-- What may be, whatever was done to it. -/
structure DS.Inv (s : DS) : Prop where
  ok : s.Ok
  tie : s.dir = tns s.chs s.fx
  inj : ∀ i, ((tns (s.chs.take i) s.fx).map (·.2)).Nodup
  fewi : ∀ i, (tns (s.chs.take i) s.fx).length ≤ 256
  nef : ∀ p, p ∈ s.fx → p.1 ≠ ⟨#[]⟩
theorem Inv_new {rm : Int} (h : 1 ≤ rm ∧ rm ≤ 1048576) : (DS.mk0 rm [] [] []).Inv :=
  ⟨⟨h, (fun _ h => by cases h), (fun _ h => by cases h), (fun _ h => by cases h), (fun _ h => by cases h), (fun _ h => by cases h), Nat.zero_le _, Nat.zero_le _, (show (0 : Int) ≤ 0 ∧ (0 : Int) ≤ 1048576 by decide), List.nodup_nil, List.nodup_nil⟩, rfl, fun i => by simp [DS.mk0, tns], fun i => by simp [DS.mk0, tns], fun _ h => by cases h⟩
theorem DS.Ok.did {s : DS} (h : s.Ok) (hd : ¬ s.down = true) : s.did.Ok := by
  refine ⟨h.rm, h.dir, h.fx, h.chs, h.chn, h.fs, h.few, h.fewx, ?_, h.nd, h.ndx⟩
  have h1 := h.lf
  simp only [DS.did]
  split
  · rename_i hf
    have : ¬ s.lf ≤ 0 := fun hl => hd (by rw [DS.down, hf]; simpa using hl)
    omega
  · exact h1
theorem DS.Inv.did {s : DS} (h : s.Inv) (hd : ¬ s.down = true) : s.did.Inv := ⟨h.ok.did hd, h.tie, h.inj, h.fewi, h.nef⟩
theorem DS.Inv.note {s : DS} (h : s.Inv) {c : CHG} (h1 : c.1 = ⟨#[]⟩ → 0 ≤ c.2.2 ∧ c.2.2 < (s.fs.length : Int)) (h2 : c.2.1 ≠ ⟨#[]⟩ → 0 ≤ c.2.2 ∧ c.2.2 < (s.fs.length : Int) ∧ c.2.1.size ≤ 64) (h3 : ((trn c s.dir).map (·.2)).Nodup) (h4 : (trn c s.dir).length ≤ 256) : (s.note c).Inv := by
  have hd : DirOk s.fs.length (trn c s.dir) := DirOk.trn ⟨fun p hp => h.ok.dir p hp, h.ok.nd⟩ h2
  have ht : trn c s.dir = tns (s.chs ++ [c]) s.fx := by rw [tns_app, ← h.tie]
  refine ⟨⟨h.ok.rm, hd.1, h.ok.fx, ?_, ?_, h.ok.fs, h4, h.ok.fewx, h.ok.lf, hd.2, h.ok.ndx⟩, ht, ?_, ?_, h.nef⟩
  · intro x hx
    rcases List.mem_append.1 hx with hx | hx
    · exact h.ok.chs x hx
    · rw [List.mem_singleton.1 hx]; exact h1
  · intro x hx
    rcases List.mem_append.1 hx with hx | hx
    · exact h.ok.chn x hx
    · rw [List.mem_singleton.1 hx]; exact h2
  · intro i
    show ((tns ((s.chs ++ [c]).take i) s.fx).map (·.2)).Nodup
    rcases Nat.lt_or_ge s.chs.length i with hi | hi
    · rw [List.take_of_length_le (by simp; omega), ← ht]; exact h3
    · rw [List.take_append_of_le_length hi]; exact h.inj i
  · intro i
    show (tns ((s.chs ++ [c]).take i) s.fx).length ≤ 256
    rcases Nat.lt_or_ge s.chs.length i with hi | hi
    · rw [List.take_of_length_le (by simp; omega), ← ht]; exact h4
    · rw [List.take_append_of_le_length hi]; exact h.fewi i
theorem DS.Inv.vals {s : DS} (h : s.Inv) : (s.dir.map (·.2)).Nodup := by
  have := h.inj s.chs.length
  rwa [List.take_length, ← h.tie] at this
theorem DS.Inv.ne {s : DS} (h : s.Inv) : ∀ p, p ∈ s.dir → p.1 ≠ ⟨#[]⟩ := by
  rw [h.tie]; exact tns_ne h.nef
theorem DS.Inv.create {s : DS} (h : s.Inv) (nm : ByteArray) : (s.create nm).2.Inv := by
  rw [DS.create]
  split
  · exact h
  · rename_i hd
    split
    · exact h
    · rename_i hr
      split
      · exact h
      · rename_i hth
        split
        · exact h
        · rename_i hf
          have h0 : ({ s with fs := s.fs ++ [([], [])] } : DS).Inv := by
            refine ⟨⟨h.ok.rm, fun p hp => ?_, fun p hp => ?_, fun c hc he => ?_, fun c hc he => ?_, fun f hf => ?_, h.ok.few, h.ok.fewx, h.ok.lf, h.ok.nd, h.ok.ndx⟩, h.tie, h.inj, h.fewi, h.nef⟩
            · have := h.ok.dir p hp; simp; omega
            · have := h.ok.fx p hp; simp; omega
            · have := h.ok.chs c hc he; simp; omega
            · have := h.ok.chn c hc he; simp; omega
            · rcases List.mem_append.1 hf with hf | hf
              · exact h.ok.fs f hf
              · rw [List.mem_singleton.1 hf]; exact ⟨Nat.zero_le _, Nat.zero_le _⟩
          have hrn : nm ≠ ⟨#[]⟩ ∧ nm.size ≤ 64 := by
            cases hq : rightN nm with
            | false => exact absurd hq hr
            | true => rw [rightN] at hq; simpa using hq
          have e1 : trn (⟨#[]⟩, nm, (s.fs.length : Int)) s.dir = put nm (s.fs.length : Int) s.dir := by rw [trn_eq, if_neg hrn.1, if_pos rfl]
          refine (h0.note (c := (⟨#[]⟩, nm, (s.fs.length : Int))) (fun _ => by simp; omega) (fun _ => by simp; exact ⟨by omega, hrn.2⟩) ?_ ?_).did (fun e => hd e)
          · show ((trn (⟨#[]⟩, nm, (s.fs.length : Int)) s.dir).map (·.2)).Nodup
            rw [e1]
            refine put_inj h.vals fun hm => ?_
            obtain ⟨p, hp, e⟩ := List.mem_map.1 hm
            have := h.ok.dir p hp; omega
          · show (trn (⟨#[]⟩, nm, (s.fs.length : Int)) s.dir).length ≤ 256
            rw [e1]
            have := put_len nm (s.fs.length : Int) s.dir
            omega
theorem DS.Inv.delete {s : DS} (h : s.Inv) (nm : ByteArray) : (s.delete nm).2.Inv := by
  rw [DS.delete]
  split
  · exact h
  · rename_i hd
    split
    · exact h
    · rename_i hn
      have hpos : 0 < s.fs.length := by
        cases ha : asc nm s.dir with
        | none => exact absurd ha hn
        | some k => have := h.ok.dir _ (asc_some ha); omega
      have hs : (trn (nm, ⟨#[]⟩, 0) s.dir).Sublist s.dir := by
        rw [trn_eq, if_pos rfl]
        split
        · exact List.Sublist.refl _
        · exact del_sub _
      refine (h.note (c := (nm, ⟨#[]⟩, 0)) (fun _ => by simp; exact hpos) (fun e => absurd rfl e) (h.vals.sublist (hs.map _)) ?_).did (fun e => hd e)
      exact Nat.le_trans hs.length_le h.ok.few
theorem DS.Inv.rename {s : DS} (h : s.Inv) (nm to : ByteArray) : (s.rename nm to).2.Inv := by
  rw [DS.rename]
  split
  · exact h
  · rename_i hd
    split
    · exact h
    · rename_i k hk
      split
      · exact h
      · rename_i hr
        have hrn : to ≠ ⟨#[]⟩ ∧ to.size ≤ 64 := by
          cases hq : rightN to with
          | false => exact absurd hq hr
          | true => rw [rightN] at hq; simpa using hq
        split
        · exact h.did hd
        · have hkr := h.ok.dir _ (asc_some hk)
          refine (h.note (c := (nm, to, k)) (fun _ => ⟨hkr.1, hkr.2.1⟩) (fun _ => ⟨hkr.1, hkr.2.1, hrn.2⟩) ?_ ?_).did (fun e => hd e)
          · rw [trn_eq, if_neg hrn.1, if_neg (h.ne _ (asc_some hk))]
            exact put_inj (h.vals.sublist ((del_sub _).map _)) (del_val h.ok.nd h.vals hk)
          · rw [trn_eq, if_neg hrn.1, if_neg (h.ne _ (asc_some hk))]
            have h1 := put_len to k (del nm s.dir)
            have h2 := del_len (m := s.dir) (x := nm) (List.mem_map.2 ⟨_, asc_some hk, rfl⟩)
            have h3 := h.ok.few
            show (put to k (del nm s.dir)).length ≤ 256
            omega
theorem DS.Inv.syncDir {s : DS} (h : s.Inv) : s.syncDir.2.Inv := by
  rw [DS.syncDir]
  split
  · exact h
  · rename_i hd
    have h0 : ({ s with fx := s.dir, chs := [] } : DS).Inv :=
      ⟨⟨h.ok.rm, h.ok.dir, h.ok.dir, (fun _ h => by cases h), (fun _ h => by cases h), h.ok.fs, h.ok.few, h.ok.few, h.ok.lf, h.ok.nd, h.ok.nd⟩, rfl, (fun i => by rw [List.take_nil]; exact h.vals), (fun i => by rw [List.take_nil]; exact h.ok.few), h.ne⟩
    exact h0.did (fun e => hd e)
theorem DS.Inv.files {s : DS} (h : s.Inv) {fs : List FILE} {ls : LS} (hl : fs.length = s.fs.length) (hf : ∀ f, f ∈ fs → f.1.length ≤ 1048576 ∧ f.2.length ≤ 1048576) : ({ s with fs := fs, ls := ls } : DS).Inv :=
  ⟨⟨h.ok.rm, by rw [hl]; exact h.ok.dir, by rw [hl]; exact h.ok.fx, by rw [hl]; exact h.ok.chs, by rw [hl]; exact h.ok.chn, hf, h.ok.few, h.ok.fewx, h.ok.lf, h.ok.nd, h.ok.ndx⟩, h.tie, h.inj, h.fewi, h.nef⟩
theorem set_files {fs : List FILE} {k : Nat} {g : FILE} (h : ∀ f, f ∈ fs → f.1.length ≤ 1048576 ∧ f.2.length ≤ 1048576) (hg : g.1.length ≤ 1048576 ∧ g.2.length ≤ 1048576) : ∀ f, f ∈ fs.set k g → f.1.length ≤ 1048576 ∧ f.2.length ≤ 1048576 := fun f hf => by
  rcases List.mem_or_eq_of_mem_set hf with hf | rfl
  · exact h f hf
  · exact hg
theorem DS.Ok.fatl {s : DS} (h : s.Ok) (k : Int) : (fat s.fs k).1.length ≤ 1048576 ∧ (fat s.fs k).2.length ≤ 1048576 := by
  rw [fat, List.getD_eq_getElem?_getD]
  cases hf : s.fs[k.toNat]? with
  | none => exact ⟨Nat.zero_le _, Nat.zero_le _⟩
  | some f => exact h.len hf
theorem DS.Inv.sync {s : DS} (h : s.Inv) (nm : ByteArray) : (s.sync nm).2.Inv := by
  rw [DS.sync]
  split
  · exact h
  · rename_i hd
    split
    · exact h
    · rename_i k hk
      have := h.ok.fatl k
      exact (h.files (by simp) (set_files (g := ((fat s.fs k).1, (fat s.fs k).1)) h.ok.fs ⟨this.1, this.1⟩)).did (fun e => hd e)
theorem DS.Inv.write {s : DS} (h : s.Inv) (nm : ByteArray) (a : Int) (x : List UInt8) : (s.write nm a x).2.Inv := by
  rw [DS.write]
  split
  · exact h
  · rename_i hd
    split
    · exact h
    · rename_i k hk
      split
      · exact h
      · rename_i h1
        split
        · exact h
        · rename_i h2
          split
          · exact h
          · have hl := h.ok.fatl k
            have hw := wrt_len (fat s.fs k).1 a.toNat x (by omega)
            exact (h.files (by simp) (set_files (g := (wrt (fat s.fs k).1 a.toNat x, (fat s.fs k).2)) h.ok.fs ⟨by (dsimp only); rw [hw]; omega, hl.2⟩)).did (fun e => hd e)
theorem DS.Inv.rot {s : DS} (h : s.Inv) (nm : ByteArray) (a : Int) (m : UInt8) : (s.rot nm a m).2.Inv := by
  rw [DS.rot]
  split
  · exact h
  · rename_i k hk
    split
    · exact h
    · have hl := h.ok.fatl k
      exact h.files (ls := s.ls) (by simp) (set_files h.ok.fs ⟨by rw [rotB_len]; exact hl.1, by rw [rotB_len]; exact hl.2⟩)
theorem DS.Inv.fuse {s : DS} (h : s.Inv) (n : Int) : (s.fuse n).2.Inv := by
  rw [DS.fuse]
  split
  · exact h
  · exact ⟨⟨h.ok.rm, h.ok.dir, h.ok.fx, h.ok.chs, h.ok.chn, h.ok.fs, h.ok.few, h.ok.fewx, ⟨by (dsimp only); omega, by (dsimp only); omega⟩, h.ok.nd, h.ok.ndx⟩, h.tie, h.inj, h.fewi, h.nef⟩
/-! ### behind a loss -/
/-- Files left, and their names: of the names of d. -/
structure LeftOk (d : DIR) (o : List FILE × DIR) : Prop where
  fs : ∀ f, f ∈ o.1 → f.1.length ≤ 1048576 ∧ f.2.length ≤ 1048576
  val : ∀ p, p ∈ o.2 → 0 ≤ p.2 ∧ p.2 < (o.1.length : Int)
  nd : (o.2.map (·.1)).Nodup
  inj : (o.2.map (·.2)).Nodup
  sub : ∀ k, k ∈ o.2.map (·.1) → k ∈ d.map (·.1)
theorem loseF_ok {s : DS} (h : s.Ok) (d : DIR) (kp sz : List Bool) : ∀ (l : List Int) (n m : Nat) (o : List FILE × DIR), LeftOk d o → LeftOk d (loseF s d kp sz l n m o)
  | [], _, _, o, ho => ho
  | k :: l, n, m, o, ho => by
    rw [loseF]
    refine loseF_ok h d kp sz l _ _ _ ?_
    split
    · exact ho
    · rename_i nm hnm
      have hb : (keptB kp n (s.spots k) (fat s.fs k) (sizeK sz m (fat s.fs k))).length ≤ 1048576 := by
        rw [keptB_len]
        have := h.fatl k
        rw [sizeK]; split <;> omega
      refine ⟨fun f hf => ?_, fun p hp => ?_, put_nodup ho.nd, put_inj ho.inj fun hm => ?_, fun x hx => ?_⟩
      · rcases List.mem_append.1 hf with hf | hf
        · exact ho.fs f hf
        · rw [List.mem_singleton.1 hf]; exact ⟨hb, hb⟩
      · have e : ((o.1 ++ [(keptB kp n (s.spots k) (fat s.fs k) (sizeK sz m (fat s.fs k)), keptB kp n (s.spots k) (fat s.fs k) (sizeK sz m (fat s.fs k)))] : List FILE).length : Int) = (o.1.length : Int) + 1 := by simp
        simp only [e]
        rcases put_mem hp with rfl | hp
        · (dsimp only); omega
        · have := ho.val p hp; omega
      · obtain ⟨p, hp, e⟩ := List.mem_map.1 hm
        have := ho.val p hp; omega
      · obtain ⟨p, hp, rfl⟩ := List.mem_map.1 hx
        rcases put_mem hp with rfl | hp
        · obtain ⟨q, hq, e⟩ := Option.map_eq_some_iff.1 hnm
          exact List.mem_map.2 ⟨q, List.mem_of_find?_eq_some hq, e⟩
        · exact ho.sub _ (List.mem_map.2 ⟨p, hp, rfl⟩)
theorem DS.Inv.lose {s : DS} (h : s.Inv) (dn : Nat) (kp sz : List Bool) : (s.lose dn kp sz).Inv := by
  have hd : DirOk s.fs.length (tns (s.chs.take dn) s.fx) := DirOk.tns ⟨fun p hp => h.ok.fx p hp, h.ok.ndx⟩ fun c hc he => h.ok.chn c (List.mem_of_mem_take hc) he
  have ho : LeftOk (tns (s.chs.take dn) s.fx) (s.left dn kp sz) := loseF_ok h.ok _ kp sz _ _ _ _ ⟨(fun _ h => by cases h), (fun _ h => by cases h), List.nodup_nil, List.nodup_nil, (fun _ h => by cases h)⟩
  have hne := tns_ne (cs := s.chs.take dn) h.nef
  have hsz : ∀ p, p ∈ (s.left dn kp sz).2 → p.1.size ≤ 64 ∧ p.1 ≠ ⟨#[]⟩ := fun p hp => by
    obtain ⟨q, hq, e⟩ := List.mem_map.1 (ho.sub p.1 (List.mem_map.2 ⟨p, hp, rfl⟩))
    rw [← e]
    exact ⟨(hd.1 q hq).2.2, hne q hq⟩
  have hfew : (s.left dn kp sz).2.length ≤ 256 := by
    have := nodup_len ho.nd ho.sub
    rw [List.length_map, List.length_map] at this
    have := h.fewi dn
    omega
  have hv : ∀ p, p ∈ (s.left dn kp sz).2 → 0 ≤ p.2 ∧ p.2 < ((s.left dn kp sz).1.length : Int) ∧ p.1.size ≤ 64 := fun p hp => ⟨(ho.val p hp).1, (ho.val p hp).2, (hsz p hp).1⟩
  exact ⟨⟨h.ok.rm, hv, hv, (fun _ h => by cases h), (fun _ h => by cases h), ho.fs, hfew, hfew, (show (0 : Int) ≤ 0 ∧ (0 : Int) ≤ 1048576 by decide), ho.nd, ho.nd⟩, rfl, (fun i => by show ((tns (([] : List CHG).take i) _).map (·.2)).Nodup; rw [List.take_nil]; exact ho.inj), (fun i => by show (tns (([] : List CHG).take i) _).length ≤ 256; rw [List.take_nil]; exact hfew), fun p hp => (hsz p hp).2⟩
theorem loseR_c {col : Nat → Nat} {w : World} {b : Nat} {s : DS} {lo hi q1 r1 q2 r2 : Nat} {Aq1 Aq2 : Option Addr} {kp sz : List Bool} (h : DkR col w b s) (hi' : s.Inv) (dir : Int) (hsz : s.size ≤ 50000) (hdir : -9223372036854775808 ≤ dir ∧ dir ≤ 9223372036854775807) (hS1 : Sl KBo lo hi w Aq1 q1 kp) (hS2 : Sl KBo lo hi w Aq2 q2 sz) (hhi : hi ≤ w.heap.size) :
    Ret Try.prog 14 #[ptrV b, .agg #[.int .i64 dir, .slice Aq1 q1 r1, .slice Aq2 q2 r2]] w fun r w' => Keep w w' ∧ ((dir < 0 ∨ (s.chs.length : Int) < dir) ∧ r = .tuple #[.pointer none, .int .i64 5] ∨ ¬ (dir < 0 ∨ (s.chs.length : Int) < dir) ∧ ∃ bo co, r = .tuple #[ptrV bo, .int .i64 0] ∧ DkR co w' bo (s.lose dir.toNat kp sz) ∧ ∀ q, co q ≠ 0 → w.heap.size ≤ q) :=
  let ⟨_, _, _, _, _, _, _, _, h⟩ := h; Lose_c dir w h hi'.ok hsz hdir hS1 hS2 hhi hi'.inj
end Go.Proofs.Ytcdebnppbnmmgaa

namespace Go.Proofs.Ytcdebnppbnmmgaa
open Go Go.Proofs.Ytcdebnppbnmmgaa.X
set_option linter.unusedVariables false
set_option linter.unusedSimpArgs false
theorem Mine.at_ {α : Type} {K : Kd α} {e g : Nat} {w : World} {A : Option Addr} {n c : Nat} {xs : List α} (hF : Flat K) (h : Mine K e (fun q => q = g) 0 0 w (.slice A n c) xs) : Sl K g (g + 1) w A n xs := by
  obtain ⟨A', c', e1, hc, hs⟩ := (h.flat hF (lo' := g) (hi' := g + 1)).sl (fun k _ hk => by have hk : k = g := hk; omega)
  injection e1 with q1 q2 q3
  rw [← q1, ← q2] at hs
  exact hs
theorem nrs_one (x : Int) : nrs [x] = [x] := by
  have : ([x] : List Int).mergeSort (fun x y => decide (x ≤ y)) = [x] := by simp [List.mergeSort]
  rw [nrs, this]; rfl
theorem repsBo {w : World} (x : Bool) : RepsV KBo w [x] [.bool x] := ⟨⟨_, rfl, rfl, trivial⟩, trivial⟩
def nmA : ByteArray := ⟨#[97]⟩
def xsA : List UInt8 := List.replicate 100 120
def sA0 : DS := DS.mk0 9 [] [] []
def sA1 : DS := (sA0.create nmA).2
def sA2 : DS := (sA1.write nmA 0 xsA).2
def sA3 : DS := sA2.lose 1 [true] [true]
def bsA : List UInt8 := List.replicate 4 120 ++ List.replicate 36 0
theorem near_A : sA2.near = [0] := nrs_one 0
theorem loose_A : sA2.loose = (1, 2, 1) := by rw [DS.loose, near_A]; kernel_rfl
theorem left_A : sA2.left 1 [true] [true] = ([(List.replicate 64 120 ++ List.replicate 36 0, List.replicate 64 120 ++ List.replicate 36 0)], [(nmA, 0)]) := by rw [DS.left, near_A]; kernel_rfl
theorem read_A : sA3.read nmA 60 40 = (bsA, 0) := by
  rw [sA3, DS.lose, left_A]; kernel_rfl
theorem inv_A0 : sA0.Inv := Inv_new (by decide)
theorem inv_A1 : sA1.Inv := inv_A0.create nmA
theorem inv_A2 : sA2.Inv := inv_A1.write nmA 0 xsA
theorem inv_A3 : sA3.Inv := inv_A2.lose 1 [true] [true]
theorem fillA (i : Nat) (h : i < 100) : (List.replicate i (120 : UInt8) ++ List.replicate (100 - i) 0).set i 120 = List.replicate (i + 1) 120 ++ List.replicate (100 - (i + 1)) 0 := by
  rw [List.set_append_right _ _ (by simp), List.length_replicate, Nat.sub_self, show 100 - i = (100 - (i + 1)) + 1 by omega, List.replicate_succ, List.set_cons_zero, List.replicate_succ', List.append_assoc]; rfl
section
variable {col : Nat → Nat} {w : World} {b : Nat}
theorem createA_c (h : DkR col w b sA0) : Ret Try.prog 7 #[ptrV b, .string nmA] w fun r w' => r = .int .i64 0 ∧ ∃ col', DkR col' w' b sA1 ∧ Stp col w col' w' :=
  createR_c h inv_A0.ok nmA (by decide) (by decide)
theorem writeA_c {lo hi cy : Nat} {Ay : Option Addr} (h : DkR col w b sA1) (hy : Sl KB lo hi w Ay 100 xsA) (hy0 : ∀ q, lo ≤ q → q < hi → col q = 0 ∧ q < w.heap.size) : Ret Try.prog 8 #[ptrV b, .string nmA, .int .i64 0, .slice Ay 100 cy] w fun r w' => r = .int .i64 0 ∧ ∃ col', DkR col' w' b sA2 ∧ Stp col w col' w' :=
  (writeR_c h inv_A1.ok nmA 0 (by decide) hy hy0 (by decide)).mono fun r w' ⟨h1, h2⟩ => ⟨h1.trans (by rw [show (sA1.write nmA 0 xsA).1 = 0 by kernel_rfl]), h2⟩
theorem looseA_c (h : DkR col w b sA2) : Ret Try.prog 20 #[ptrV b] w fun r w' => r = .tuple #[.int .i64 1, .int .i64 2, .int .i64 1] ∧ Keep w w' :=
  (looseR_c h inv_A2.ok (by rw [show sA2.size = 2 by kernel_rfl]; decide)).mono fun r w' ⟨h1, h2⟩ => ⟨h1.trans (by rw [loose_A]; rfl), h2⟩
theorem loseA_c {lo hi q1 r1 q2 r2 : Nat} {Aq1 Aq2 : Option Addr} (h : DkR col w b sA2) (hS1 : Sl KBo lo hi w Aq1 q1 [true]) (hS2 : Sl KBo lo hi w Aq2 q2 [true]) (hhi : hi ≤ w.heap.size) : Ret Try.prog 14 #[ptrV b, .agg #[.int .i64 1, .slice Aq1 q1 r1, .slice Aq2 q2 r2]] w fun r w' => ∃ bo co, r = .tuple #[ptrV bo, .int .i64 0] ∧ DkR co w' bo sA3 ∧ Keep w w' :=
  (loseR_c h inv_A2 1 (by rw [show sA2.size = 2 by kernel_rfl]; decide) (by decide) hS1 hS2 hhi).mono fun r w' ⟨hk, h1⟩ => by
    have hl : sA2.chs.length = 1 := by kernel_rfl
    rcases h1 with ⟨h2, _⟩ | ⟨_, bo, co, h3, h4, _⟩
    · rw [hl] at h2; omega
    · exact ⟨bo, co, h3, h4, hk⟩
theorem readA_c (h : DkR col w b sA3) : Ret Try.prog 13 #[ptrV b, .string nmA, .int .i64 60, .int .i64 40] w fun r w' => ∃ A c, r = .tuple #[.slice A 40 c, .int .i64 0] ∧ 40 ≤ c ∧ Sl KB w.heap.size w'.heap.size w' A 40 bsA ∧ Keep w w' :=
  (readR_c h inv_A3.ok nmA 60 40 (by decide)).mono fun r w' ⟨v, h1, h2, hk⟩ => by
    rw [read_A] at h1 h2
    obtain ⟨A, c, rfl, hc, hs⟩ := (h2.flat KB_flat (lo' := w.heap.size) (hi' := w'.heap.size)).sl (fun k hk h => h)
    exact ⟨A, c, h1, hc, hs, hk⟩
end
-- f11 "pedigree/pedigreelaw05.alive" params [] results [4] -> [(ResultVar.tmp 0)] nfree 0 ntmps 103 names [""
set_option maxHeartbeats 4000000 in
set_option maxRecDepth 100000 in
theorem alive_c (w : World) : Ret Try.prog 11 #[] w fun r w' => r = .bool true ∧ Keep w w' := by
  refine X.enter Try.func11 rfl Try.ntmps11 rfl ?_
  refine X.seq ?_
  refine X.region ?_
  refine X.opw X.wN rfl (X.assign rfl) ?_
  refine X.opsEnd ?_
  refine X.seq ?_
  refine X.region ?_
  refine X.opE X.wN rfl (X.callE (New_ok 9 _ (by decide)) Try.call6 rfl rfl) ?_
  rintro _ w1 ⟨bd, bf, bdd, bx, bl, c0, rfl, hDk, hDc, hk1⟩
  have hk1' := hk1.size
  refine X.opw X.wN rfl (X.move rfl) ?_
  refine X.opw X.wN rfl (X.extr rfl rfl) ?_
  refine X.opw X.wN rfl (X.extr rfl rfl) ?_
  refine X.opw X.wN rfl (X.assign rfl) ?_
  refine X.opw X.wN rfl (X.assign (v := .int .i64 _) rfl) ?_
  refine X.opsEnd ?_
  refine X.seq ?_
  refine X.seq ?_
  refine X.region ?_
  refine X.opw X.wN rfl (X.move (v := .int .i64 _) rfl) ?_
  refine X.opw X.wN rfl (X.neI rfl rfl) ?_
  refine X.opw X.wN rfl (X.move (v := .bool false) rfl) ?_
  refine X.opw (X.wG rfl rfl rfl) rfl (X.move rfl) ?_
  refine X.opw (X.wG rfl rfl rfl) rfl (X.eqPtrN (A := some _) Try.underlying26 rfl rfl) ?_
  refine X.opw X.wN rfl (X.pickF (v := .bool false) rfl rfl) ?_
  refine X.opsEnd ?_
  refine X.condF rfl ?_
  refine X.skip ?_
  refine X.seq ?_
  refine X.region ?_
  have hD0 := hDk.r
  refine X.opE X.wN rfl (X.mkB (n := 100) (S := fun q => q = w1.heap.size) Try.underlying22 E8e rfl rfl (by omega) rfl) ?_
  rintro _ w2 ⟨rfl, hs2, gM0, hk2⟩
  have hk2' := hk2.size
  refine X.opw X.wN rfl (X.assign rfl) ?_
  refine X.opsEnd ?_
  refine X.seq ?_
  refine X.seq ?_
  refine X.region ?_
  refine X.opw X.wN rfl (X.assign rfl) ?_
  refine X.opsEnd ?_
  refine X.block ?_
  -- LOOP live: 1=d, 3=b, 4=i*
  have gD := (hD0.keep hk2)
  have gM := gM0
  have hgl : w1.heap.size < w2.heap.size := by
    obtain ⟨ad, e, _, h2, _⟩ := hs2.at_ (by omega)
    cases e; exact h2
  have hkA : Keep w w2 := hk1.trans hk2
  have hcz : c0 w1.heap.size = 0 := Classical.byContradiction fun e => by have := hD0.lt _ e; omega
  refine X.loopL (σ := Nat) (fun s => [(1, ptrV bd), (3, .slice (some ⟨w1.heap.size, 0, none⟩) 100 100), (4, .int .i64 (s : Int))]) (fun s w' => s ≤ 100 ∧ DkR c0 w' bd sA0 ∧ Mine KB 5 (fun q => q = w1.heap.size) 0 0 w' (.slice (some ⟨w1.heap.size, 0, none⟩) 100 100) (List.replicate s 120 ++ List.replicate (100 - s) 0) ∧ Ext (fun q => q = w1.heap.size) w2 w') (fun s => 100 - s) 0 ⟨rfl, rfl, rfl, trivial⟩ ⟨Nat.zero_le _, gD, gM, Ext.refl _ _⟩ ?_
  rintro i e wi ⟨hi, hDi, gMi, hxi⟩ hback
  have hxi' := hxi.size
  refine X.seq ?_
  refine X.seq ?_
  refine X.region ?_
  refine X.opw X.wN rfl (X.move (v := .int .i64 _) rfl) ?_
  refine X.opw X.wN rfl (X.move rfl) ?_
  refine X.opw X.wN rfl (X.lenSl Try.underlying22 rfl) ?_
  refine X.opP X.wN rfl rfl (X.lss rfl rfl) (fun h28 => ?_) (fun h28 => ?_)
  · refine X.opsEnd ?_
    refine X.condT rfl ?_
    refine X.skip ?_
    refine X.seq ?_
    refine X.block ?_
    refine X.region ?_
    refine X.opw X.wN rfl (X.move rfl) ?_
    refine X.opw X.wN rfl (X.move (v := .int .i64 _) rfl) ?_
    refine X.opw X.wN rfl (X.idxS (gMi.rd KB_flat).2 Try.underlying22 Try.sizeOf5 rfl rfl ⟨by omega, by omega⟩) ?_
    refine X.opE X.wN rfl (X.storeM (y := 120) (j := i) Try.sizeOf5 gMi (by simp; omega) rfl rfl) ?_
    rintro _ w3 ⟨gMs, hxs, hzs⟩
    refine X.opsEnd ?_
    refine X.inBlock ?_
    refine X.region ?_
    refine X.opw X.wN rfl (X.move (v := .int .i64 _) rfl) ?_
    refine X.opw X.wN rfl (X.add rfl rfl (X.w_i64 (by omega))) ?_
    refine X.opw X.wN rfl (X.assign (v := .int .i64 _) rfl) ?_
    refine X.opsEnd ?_
    refine hback (i + 1) _ _ ⟨rfl, rfl, rfl, trivial⟩ ⟨by omega, (hDi.ext hxs (by intro q g1 g2; have g2 : q = _ := g2; subst g2; exact g1 hcz)), (by rw [← fillA i (by omega)]; exact gMs), (Ext.andThen (Ext.andThen (Ext.refl (fun q => q = w1.heap.size) _) hxi (by intro q h1 h2; first | exact (h2 : False).elim | exact h2)) hxs (by intro q h1 h2; first | exact (h2 : False).elim | exact h2))⟩ (by omega)
  · have hfull : List.replicate i (120 : UInt8) ++ List.replicate (100 - i) 0 = xsA := by rw [show i = 100 by omega]; rfl
    refine X.opsEnd ?_
    refine X.condF rfl ?_
    refine X.exit rfl ?_
    refine X.seq ?_
    refine X.region ?_
    refine X.opw X.wN rfl (X.move rfl) ?_
    refine X.opE X.wN rfl (X.callE (createA_c hDi) Try.call7 rfl rfl) ?_
    rintro _ w4 ⟨rfl, c1, hD1, hold1, hx4⟩
    have hx4' := hx4.size
    refine X.opw X.wN rfl (X.assign (v := .int .i64 _) rfl) ?_
    refine X.opsEnd ?_
    refine X.seq ?_
    refine X.region ?_
    refine X.opw X.wN rfl (X.move rfl) ?_
    refine X.opw X.wN rfl (X.move rfl) ?_
    refine X.opE X.wN rfl (X.callE (writeA_c hD1 (by have h9 := Mine.at_ KB_flat (gMi.ext hx4 (by intros; omega) (by intro q g1 g2; have g1 : q = _ := g1; subst g1; exact g2 hcz)); rw [hfull] at h9; exact h9) (by intro q g1 g2; rw [show q = w1.heap.size by omega]; exact ⟨(hold1 _ (by omega)).trans hcz, by omega⟩)) Try.call8 rfl rfl) ?_
    rintro _ w5 ⟨rfl, c2, hD2, hold2, hx5⟩
    have hx5' := hx5.size
    refine X.opw X.wN rfl (X.assign (v := .int .i64 _) rfl) ?_
    refine X.opsEnd ?_
    refine X.seq ?_
    refine X.region ?_
    refine X.opw X.wN rfl (X.move rfl) ?_
    refine X.opE X.wN rfl (X.callE (looseA_c hD2) Try.call20 rfl rfl) ?_
    rintro _ w6 ⟨rfl, hk6⟩
    have hk6' := hk6.size
    refine X.opw X.wN rfl (X.move rfl) ?_
    refine X.opw X.wN rfl (X.extr rfl rfl) ?_
    refine X.opw X.wN rfl (X.extr rfl rfl) ?_
    refine X.opw X.wN rfl (X.extr rfl rfl) ?_
    refine X.opw X.wN rfl (X.assign (v := .int .i64 _) rfl) ?_
    refine X.opw X.wN rfl (X.assign (v := .int .i64 _) rfl) ?_
    refine X.opw X.wN rfl (X.assign (v := .int .i64 _) rfl) ?_
    refine X.opsEnd ?_
    refine X.seq ?_
    refine X.region ?_
    refine X.opw X.wN rfl (X.move rfl) ?_
    refine X.opE X.wN rfl (X.litKF KBo_flat (K := KBo) (xs := [Operand.const (.bool true)]) (vs := [.bool true]) (ys := [true]) Try.underlying23 Try.sizeOf4 Try.zeroValue4 rfl rfl rfl rfl rfl (repsBo true)) ?_
    rintro _ w7 ⟨rfl, hs7, hB7, hk7, hz7⟩
    refine X.opE X.wN rfl (X.litKF KBo_flat (K := KBo) (xs := [Operand.const (.bool true)]) (vs := [.bool true]) (ys := [true]) Try.underlying23 Try.sizeOf4 Try.zeroValue4 rfl rfl rfl rfl rfl (repsBo true)) ?_
    rintro _ w8 ⟨rfl, hs8, hB8, hk8, hz8⟩
    refine X.opw X.wN rfl (X.buildB (vs := [(0, .int .i64 1), (1, .slice (some ⟨w6.heap.size, 0, none⟩) 1 1), (2, .slice (some ⟨w7.heap.size, 0, none⟩) 1 1)]) (cs := #[.int .i64 1, .slice (some ⟨w6.heap.size, 0, none⟩) 1 1, .slice (some ⟨w7.heap.size, 0, none⟩) 1 1]) rfl (by kernel_rfl)) ?_
    refine X.opE X.wN rfl (X.callE (loseA_c (lo := 0) (hi := w8.heap.size) (((hD2.keep hk6).keep hk7).keep hk8) ((hs7.keep hk8).wide (Nat.zero_le _) (by omega)) (hs8.wide (Nat.zero_le _) (by omega)) (Nat.le_refl _)) Try.call14 rfl rfl) ?_
    rintro _ w9 ⟨bo, co, rfl, hD3, hk9⟩
    have hk9' := hk9.size
    refine X.opw X.wN rfl (X.move rfl) ?_
    refine X.opw X.wN rfl (X.extr rfl rfl) ?_
    refine X.opw X.wN rfl (X.extr rfl rfl) ?_
    refine X.opw X.wN rfl (X.assign rfl) ?_
    refine X.opw X.wN rfl (X.assign (v := .int .i64 _) rfl) ?_
    refine X.opsEnd ?_
    refine X.seq ?_
    refine X.seq ?_
    refine X.region ?_
    refine X.opw X.wN rfl (X.move (v := .int .i64 _) rfl) ?_
    refine X.opw X.wN rfl (X.neI rfl rfl) ?_
    refine X.opw X.wN rfl (X.move (v := .bool false) rfl) ?_
    refine X.opw (X.wG rfl rfl rfl) rfl (X.move (v := .int .i64 _) rfl) ?_
    refine X.opw (X.wG rfl rfl rfl) rfl (X.neI rfl rfl) ?_
    refine X.opw X.wN rfl (X.pickF (v := .bool false) rfl rfl) ?_
    refine X.opw X.wN rfl (X.move (v := .bool false) rfl) ?_
    refine X.opw (X.wG rfl rfl rfl) rfl (X.move (v := .int .i64 _) rfl) ?_
    refine X.opw (X.wG rfl rfl rfl) rfl (X.neI rfl rfl) ?_
    refine X.opw X.wN rfl (X.pickF (v := .bool false) rfl rfl) ?_
    refine X.opw X.wN rfl (X.move (v := .bool false) rfl) ?_
    refine X.opw (X.wG rfl rfl rfl) rfl (X.move rfl) ?_
    refine X.opw (X.wG rfl rfl rfl) rfl (X.eqPtrN (A := some _) Try.underlying26 rfl rfl) ?_
    refine X.opw X.wN rfl (X.pickF (v := .bool false) rfl rfl) ?_
    refine X.opsEnd ?_
    refine X.condF rfl ?_
    refine X.skip ?_
    refine X.seq ?_
    refine X.region ?_
    refine X.opw X.wN rfl (X.move rfl) ?_
    refine X.opE X.wN rfl (X.callE (readA_c hD3) Try.call13 rfl rfl) ?_
    rintro _ w10 ⟨Ac, cc, rfl, hcc, hSc, hk10⟩
    have hk10' := hk10.size
    refine X.opw X.wN rfl (X.move rfl) ?_
    refine X.opw X.wN rfl (X.extr rfl rfl) ?_
    refine X.opw X.wN rfl (X.extr rfl rfl) ?_
    refine X.opw X.wN rfl (X.assign (v := .slice _ _ _) rfl) ?_
    refine X.opw X.wN rfl (X.assign (v := .int .i64 _) rfl) ?_
    refine X.opsEnd ?_
    refine X.seq ?_
    refine X.region ?_
    refine X.opw X.wN rfl (X.move (v := .int .i64 _) rfl) ?_
    refine X.opw X.wN rfl (X.eqI rfl rfl) ?_
    refine X.opw X.wN rfl (X.move (v := .bool true) rfl) ?_
    refine X.opw (X.wG rfl rfl rfl) rfl (X.move (v := .int .i64 _) rfl) ?_
    refine X.opw (X.wG rfl rfl rfl) rfl (X.eqI rfl rfl) ?_
    refine X.opw X.wN rfl (X.pickT (v := .bool true) rfl rfl) ?_
    refine X.opw X.wN rfl (X.move (v := .bool true) rfl) ?_
    refine X.opw (X.wG rfl rfl rfl) rfl (X.move (v := .int .i64 _) rfl) ?_
    refine X.opw (X.wG rfl rfl rfl) rfl (X.eqI rfl rfl) ?_
    refine X.opw X.wN rfl (X.pickT (v := .bool true) rfl rfl) ?_
    refine X.opw X.wN rfl (X.move (v := .bool true) rfl) ?_
    refine X.opw (X.wG rfl rfl rfl) rfl (X.move (v := .int .i64 _) rfl) ?_
    refine X.opw (X.wG rfl rfl rfl) rfl (X.eqI rfl rfl) ?_
    refine X.opw X.wN rfl (X.pickT (v := .bool true) rfl rfl) ?_
    refine X.opw X.wN rfl (X.move (v := .bool true) rfl) ?_
    refine X.opw (X.wG rfl rfl rfl) rfl (X.move (v := .slice _ _ _) rfl) ?_
    refine X.opw (X.wG rfl rfl rfl) rfl (X.lenSl Try.underlying22 rfl) ?_
    refine X.opw (X.wG rfl rfl rfl) rfl (X.eqI rfl rfl) ?_
    refine X.opw X.wN rfl (X.pickT (v := .bool true) rfl rfl) ?_
    refine X.opw X.wN rfl (X.move (v := .bool true) rfl) ?_
    refine X.opw (X.wG rfl rfl rfl) rfl (X.move (v := .slice _ _ _) rfl) ?_
    refine X.opw (X.wG rfl rfl rfl) rfl (X.cutHr Try.underlying22 Try.sizeOf5 rfl rfl (by omega)) ?_
    refine X.opw (X.wG rfl rfl rfl) rfl (X.str Try.underlying22 Try.underlying5 Try.underlying9 rfl KB_is rfl (hSc.take 5 (by omega))) ?_
    refine X.opw (X.wG rfl rfl rfl) rfl (X.eqD rfl rfl) ?_
    refine X.opw X.wN rfl (X.pickT (v := .bool true) rfl rfl) ?_
    refine X.opw X.wN rfl (X.move (v := .bool true) rfl) ?_
    refine X.opw (X.wG rfl rfl rfl) rfl (X.move (v := .slice _ _ _) rfl) ?_
    refine X.opw (X.wG rfl rfl rfl) rfl (X.idxS hSc Try.underlying22 Try.sizeOf5 rfl rfl ⟨by omega, by omega⟩) ?_
    refine X.opw (X.wG rfl rfl rfl) rfl (X.loadS Try.isAgg5 hSc (show bsA[39]? = some 0 from rfl) rfl (fun _ h => by rw [h.1]; rfl)) ?_
    refine X.opw (X.wG rfl rfl rfl) rfl (X.eqI rfl rfl) ?_
    refine X.opw X.wN rfl (X.pickT (v := .bool true) rfl rfl) ?_
    refine X.opw X.wN rfl (X.assign (v := .bool true) rfl) ?_
    refine X.opsEnd ?_
    refine X.ret1 (v := (.bool _)) Try.func11 Try.results11 rfl ?_
    exact ⟨rfl, ((((((((hkA.step hxi (by intro q g1; have g1 : q = _ := g1; omega)).step hx4 (fun q g1 => hDc q g1)).step hx5 (fun q g1 => if g2 : q < wi.heap.size then hDc q (fun e => g1 ((hold1 q g2).trans e)) else by omega)).trans hk6).trans hk7).trans hk8).trans hk9).trans hk10)⟩
end Go.Proofs.Ytcdebnppbnmmgaa

namespace Go.Proofs.Ytcdebnppbnmmgaa
open Go Go.Proofs.Ytcdebnppbnmmgaa.X
set_option linter.unusedVariables false
set_option linter.unusedSimpArgs false
def nmF : ByteArray := ⟨#[102]⟩
def stF (f : FILE) (fx : DIR) (chs : List CHG) (ls : LS) : DS := { rm := 1000, fs := [f], dir := [(nmF, 0)], fx := fx, chs := chs, ls := ls, fu := false, lf := 0 }
theorem sF_create : (DS.mk0 1000 [] [] []).create nmF = (0, stF ([], []) [] [(⟨#[]⟩, nmF, 0)] []) := by kernel_rfl
theorem asc_F : asc nmF [(nmF, (0 : Int))] = some 0 := by kernel_rfl
theorem used_F (f : FILE) (fx : DIR) (chs : List CHG) (ls : LS) : (stF f fx chs ls).used = secs f.1.length := by
  rw [DS.used, costs, stF]
  show (cost (flen [f]) [(nmF, 0)] nmF) + 0 = _
  rw [cost, asc_F]; rfl
theorem sF_write (a f x : List UInt8) (fx : DIR) (chs : List CHG) (ls : LS) (at_ : Int) (ha : a.length ≤ 400) (hx : x.length ≤ 400) :
    (stF (a, f) fx chs ls).write nmF at_ x = if at_ < 0 ∨ (a.length : Int) < at_ then (5, stF (a, f) fx chs ls) else (0, stF (wrt a at_.toNat x, f) fx chs (markL 0 (at_.toNat / 64) (touched at_.toNat x.length) ls)) := by
  have hU := used_F (a, f) fx chs ls
  rw [DS.write, hU, if_neg (show ¬ (stF (a, f) fx chs ls).down = true from Bool.false_ne_true), show (stF (a, f) fx chs ls).dir = [(nmF, 0)] from rfl, asc_F]
  simp only [show fat (stF (a, f) fx chs ls).fs 0 = (a, f) from rfl]
  by_cases h : at_ < 0 ∨ (a.length : Int) < at_
  · rw [if_pos h, if_pos h]
  · rw [if_neg h, if_neg h, if_neg (by omega), if_neg (by
      have e : (stF (a, f) fx chs ls).rm = 1000 := rfl
      rw [e]; simp only [secs]; omega)]; rfl
theorem sF_sync (a f : List UInt8) (fx : DIR) (chs : List CHG) (ls : LS) : (stF (a, f) fx chs ls).sync nmF = (0, stF (a, a) fx chs (ls.filter fun p => decide (p.1.1 ≠ 0))) := by
  rw [DS.sync, if_neg (show ¬ (stF (a, f) fx chs ls).down = true from Bool.false_ne_true), show (stF (a, f) fx chs ls).dir = [(nmF, 0)] from rfl, asc_F]; rfl
theorem sF_syncDir (f : FILE) (fx : DIR) (chs : List CHG) (ls : LS) : (stF f fx chs ls).syncDir = (0, stF f [(nmF, 0)] [] ls) := by
  rw [DS.syncDir, if_neg (show ¬ (stF f fx chs ls).down = true from Bool.false_ne_true)]; rfl
theorem wrt_nil (x : List UInt8) : wrt [] 0 x = x := by simp [wrt]
theorem markL_keys (k : Int) : ∀ (n s : Nat) (l : LS), (∀ p, p ∈ l → p.1.1 = k) → ∀ p, p ∈ markL k s n l → p.1.1 = k
  | 0, _, _, h => h
  | n + 1, s, l, h => markL_keys k n (s + 1) _ (fun p hp => by
      rcases put_mem hp with h1 | h1
      · rw [h1]
      · exact h p h1)
theorem markL_filter (k : Int) (s n : Nat) : (markL k s n []).filter (fun p => decide (p.1.1 ≠ k)) = [] := List.filter_eq_nil_iff.2 fun p hp => by
  have := markL_keys k n s [] (fun _ h => by cases h) p hp
  simp [this]
def nowF (was : List UInt8) (at_ : Int) (b : List UInt8) : List UInt8 := wrt was at_.toNat b
def sF3 (was : List UInt8) : DS := stF (was, was) [(nmF, 0)] [] []
def sF4 (was : List UInt8) (at_ : Int) (b : List UInt8) : DS := stF (nowF was at_ b, was) [(nmF, 0)] [] (markL 0 (at_.toNat / 64) (touched at_.toNat b.length) [])
def sF1 : DS := stF ([], []) [] [(⟨#[]⟩, nmF, 0)] []
def sF2 (was : List UInt8) : DS := stF (was, []) [] [(⟨#[]⟩, nmF, 0)] (markL 0 0 (touched 0 was.length) [])
def sF2' (was : List UInt8) : DS := stF (was, was) [] [(⟨#[]⟩, nmF, 0)] []
def lostF (was : List UInt8) (at_ : Int) (b : List UInt8) (kp sz : List Bool) : List UInt8 := keptB kp 0 ((sF4 was at_ b).spots 0) (nowF was at_ b, was) (sizeK sz 0 (nowF was at_ b, was))
def sF5 (was : List UInt8) (at_ : Int) (b : List UInt8) (kp sz : List Bool) : DS := DS.mk0 1000 [(lostF was at_ b kp sz, lostF was at_ b kp sz)] [(nmF, 0)] [(nmF, 0)]
theorem sF_lose (was : List UInt8) (at_ : Int) (b : List UInt8) (kp sz : List Bool) : (sF4 was at_ b).lose 0 kp sz = sF5 was at_ b kp sz := by
  have hn : (sF4 was at_ b).near = [0] := nrs_one 0
  have hl : (sF4 was at_ b).left 0 kp sz = ([(lostF was at_ b kp sz, lostF was at_ b kp sz)], [(nmF, 0)]) := by rw [DS.left, hn]; rfl
  rw [DS.lose, hl]; rfl
theorem iF1 : sF1.Inv := by have := (Inv_new (rm := 1000) (by decide)).create nmF; rw [sF_create] at this; exact this
theorem iF2 {was : List UInt8} (h : was.length ≤ 400) : (sF2 was).Inv := by
  have := iF1.write nmF 0 was
  rw [sF1, sF_write _ _ _ _ _ _ _ (by simp) h, if_neg (by simp)] at this
  have e : wrt [] (0 : Int).toNat was = was := wrt_nil was
  rw [e] at this; exact this
theorem eF2 {was : List UInt8} (h : was.length ≤ 400) : sF1.write nmF 0 was = (0, sF2 was) := by
  rw [sF1, sF_write _ _ _ _ _ _ _ (by simp) h, if_neg (by simp)]
  have e : wrt [] (0 : Int).toNat was = was := wrt_nil was
  rw [e]; rfl
theorem eF2' (was : List UInt8) : (sF2 was).sync nmF = (0, sF2' was) := by rw [sF2, sF_sync, markL_filter]; rfl
theorem iF2' {was : List UInt8} (h : was.length ≤ 400) : (sF2' was).Inv := by have := (iF2 h).sync nmF; rw [eF2'] at this; exact this
theorem eF3 (was : List UInt8) : (sF2' was).syncDir = (0, sF3 was) := by rw [sF2', sF_syncDir]; rfl
theorem iF3 {was : List UInt8} (h : was.length ≤ 400) : (sF3 was).Inv := by have := (iF2' h).syncDir; rw [eF3] at this; exact this
theorem eF4 {was b : List UInt8} (h : was.length ≤ 400) (hb : b.length ≤ 400) (at_ : Int) : (sF3 was).write nmF at_ b = if at_ < 0 ∨ (was.length : Int) < at_ then (5, sF3 was) else (0, sF4 was at_ b) := by
  rw [sF3, sF_write _ _ _ _ _ _ _ h hb]; rfl
theorem iF4 {was b : List UInt8} (h : was.length ≤ 400) (hb : b.length ≤ 400) {at_ : Int} (hat : ¬ (at_ < 0 ∨ (was.length : Int) < at_)) : (sF4 was at_ b).Inv := by
  have := (iF3 h).write nmF at_ b; rw [eF4 h hb, if_neg hat] at this; exact this
theorem iF5 {was b : List UInt8} (h : was.length ≤ 400) (hb : b.length ≤ 400) {at_ : Int} (hat : ¬ (at_ < 0 ∨ (was.length : Int) < at_)) (kp sz : List Bool) : (sF5 was at_ b kp sz).Inv := by
  have := (iF4 h hb hat).lose 0 kp sz; rw [sF_lose] at this; exact this
theorem nowF_len {was : List UInt8} {at_ : Int} (hat : ¬ (at_ < 0 ∨ (was.length : Int) < at_)) (b : List UInt8) : (nowF was at_ b).length = max was.length (at_.toNat + b.length) := wrt_len _ _ _ (by omega)
/-- Of each sector: what was there, or what is fixed. -/
theorem zaps_sect (kp : List Bool) (fx : List UInt8) : ∀ (l : List Int) (n : Nat) (c : List UInt8) (σ : Nat), (∀ i, i / 64 = σ → (zaps kp fx n l c)[i]? = c[i]?) ∨ (∀ i, i / 64 = σ → i < c.length → (zaps kp fx n l c)[i]? = some (fx.getD i 0))
  | [], _, _, _ => .inl fun _ _ => rfl
  | s :: l, n, c, σ => by
    rw [zaps]
    rcases zaps_sect kp fx l (n + 1) (if bit kp n = true then c else zap fx c s.toNat) σ with h | h
    · by_cases hb : bit kp n = true
      · rw [if_pos hb] at h ⊢; exact .inl h
      · rw [if_neg hb] at h ⊢
        by_cases hs : σ = s.toNat
        · refine .inr fun i hi hlt => ?_
          rw [h i hi, zap, List.getElem?_mapIdx, List.getElem?_eq_getElem hlt, Option.map_some, if_pos (by omega)]
        · refine .inl fun i hi => ?_
          rw [h i hi, zap, List.getElem?_mapIdx]
          cases c[i]? with
          | none => rfl
          | some y => rw [Option.map_some, if_neg (by omega)]
    · refine .inr fun i hi hlt => h i hi ?_
      by_cases hb : bit kp n = true
      · rw [if_pos hb]; exact hlt
      · rw [if_neg hb, zap, List.length_mapIdx]; exact hlt
section
variable {was b : List UInt8} {at_ : Int} (hat : ¬ (at_ < 0 ∨ (was.length : Int) < at_)) (kp sz : List Bool)
include hat
theorem lostF_at {j : Nat} (hj : j < sizeK sz 0 (nowF was at_ b, was)) : (lostF was at_ b kp sz)[j]? = (zaps kp was 0 ((sF4 was at_ b).spots 0) (nowF was at_ b))[j]? := by
  have hl := nowF_len hat b
  rw [lostF, keptB]
  simp only
  rw [List.drop_of_length_le (by rw [zaps_len]; omega), List.append_nil, List.getElem?_take_of_lt hj]
theorem lostF_len : (lostF was at_ b kp sz).length = sizeK sz 0 (nowF was at_ b, was) := by
  have hl := nowF_len hat b
  have h : sizeK sz 0 (nowF was at_ b, was) ≤ (nowF was at_ b).length := by
    rw [sizeK]; split
    · exact Nat.le_refl _
    · show was.length ≤ _; omega
  rw [lostF, keptB]
  simp only
  rw [List.drop_of_length_le (by rw [zaps_len]; omega), List.append_nil, List.length_take, zaps_len]; omega
theorem lostF_size : ((lostF was at_ b kp sz).length = (nowF was at_ b).length ∨ (lostF was at_ b kp sz).length = was.length) ∧ was.length ≤ (nowF was at_ b).length ∧ (lostF was at_ b kp sz).length ≤ (nowF was at_ b).length := by
  have hl := nowF_len hat b
  rw [lostF_len hat, sizeK]
  refine ⟨?_, by omega, ?_⟩
  · split
    · exact .inl rfl
    · exact .inr rfl
  · split
    · exact Nat.le_refl _
    · show was.length ≤ _; omega
theorem sect {t e : Nat} (he : e = min (lostF was at_ b kp sz).length (t * 64 + 64)) (ht : t * 64 < (lostF was at_ b kp sz).length) :
    ((lostF was at_ b kp sz).drop (t * 64)).take (e - t * 64) = ((nowF was at_ b).drop (t * 64)).take (e - t * 64) ∨ ((lostF was at_ b kp sz).drop (t * 64)).take (e - t * 64) = ((was ++ List.replicate ((nowF was at_ b).length - was.length) 0).drop (t * 64)).take (e - t * 64) := by
  have hl := lostF_len (b := b) hat kp sz
  obtain ⟨_, h2, h3⟩ := lostF_size (b := b) hat kp sz
  rcases zaps_sect kp was ((sF4 was at_ b).spots 0) 0 (nowF was at_ b) t with h | h
  · refine .inl (List.ext_getElem? fun i => ?_)
    by_cases hi : i < e - t * 64
    · rw [List.getElem?_take_of_lt hi, List.getElem?_take_of_lt hi, List.getElem?_drop, List.getElem?_drop, lostF_at hat kp sz (by omega), h _ (by omega)]
    · rw [List.getElem?_take_eq_none (by omega), List.getElem?_take_eq_none (by omega)]
  · refine .inr (List.ext_getElem? fun i => ?_)
    by_cases hi : i < e - t * 64
    · rw [List.getElem?_take_of_lt hi, List.getElem?_take_of_lt hi, List.getElem?_drop, List.getElem?_drop, lostF_at hat kp sz (by omega), h _ (by omega) (by omega), List.getD_eq_getElem?_getD]
      by_cases hw : t * 64 + i < was.length
      · rw [List.getElem?_append_left hw, List.getElem?_eq_getElem hw]; rfl
      · rw [List.getElem?_append_right (by omega), List.getElem?_eq_none (by omega), List.getElem?_replicate_of_lt (by omega)]; rfl
    · rw [List.getElem?_take_eq_none (by omega), List.getElem?_take_eq_none (by omega)]
end
end Go.Proofs.Ytcdebnppbnmmgaa

namespace Go.Proofs.Ytcdebnppbnmmgaa
open Go Go.Proofs.Ytcdebnppbnmmgaa.X
set_option linter.unusedVariables false
set_option linter.unusedSimpArgs false
def nmK : ByteArray := ⟨#[107, 101, 112, 116]⟩
/-- File 0 is called so, and it is fixed. -/
structure KeptC (bb : List UInt8) (m : Nat) (s : DS) : Prop where
  fil : s.fs[0]? = some (bb, bb)
  fx : asc nmK s.fx = some 0
  chs : ∀ c, c ∈ s.chs → c.1 ≠ nmK ∧ c.2.1 ≠ nmK
  ls : ∀ p, p ∈ s.ls → p.1.1 ≠ 0
  sz : s.size ≤ m
def Kept (bb : List UInt8) (m : Nat) (s : DS) : Prop := s.Inv ∧ KeptC bb m s
theorem asc_trn {c : CHG} {d : DIR} {k : Int} (hd : (d.map (·.1)).Nodup) (h : asc nmK d = some k) (hc : c.1 ≠ nmK ∧ c.2.1 ≠ nmK) : asc nmK (trn c d) = some k := by
  have h1 : asc nmK (if c.1 = ⟨#[]⟩ then d else del c.1 d) = some k := by
    split
    · exact h
    · rw [asc_del hd, if_neg (fun e => hc.1 e.symm)]; exact h
  rw [trn_eq]
  split
  · exact h1
  · rw [asc_put, if_neg (fun e => hc.2 e.symm)]; exact h1
theorem trn_nd {c : CHG} {d : DIR} (hd : (d.map (·.1)).Nodup) : ((trn c d).map (·.1)).Nodup := by
  have h1 : ((if c.1 = ⟨#[]⟩ then d else del c.1 d).map (·.1)).Nodup := by
    split
    · exact hd
    · exact del_nodup hd
  rw [trn_eq]
  split
  · exact h1
  · exact put_nodup h1
theorem asc_tns {k : Int} : ∀ {cs : List CHG} {d : DIR}, (d.map (·.1)).Nodup → asc nmK d = some k → (∀ c, c ∈ cs → c.1 ≠ nmK ∧ c.2.1 ≠ nmK) → asc nmK (tns cs d) = some k
  | [], _, _, h, _ => h
  | c :: cs, _, hd, h, hc => asc_tns (cs := cs) (trn_nd hd) (asc_trn hd h (hc c List.mem_cons_self)) fun x hx => hc x (List.mem_cons_of_mem _ hx)
theorem tns_nd : ∀ {cs : List CHG} {d : DIR}, (d.map (·.1)).Nodup → ((tns cs d).map (·.1)).Nodup
  | [], _, h => h
  | c :: cs, _, h => tns_nd (cs := cs) (trn_nd h)
theorem nd_inj {α β : Type} {f : α → β} : ∀ {l : List α}, (l.map f).Nodup → ∀ {a b : α}, a ∈ l → b ∈ l → f a = f b → a = b
  | [], _, _, _, h, _, _ => by cases h
  | x :: l, h, a, b, ha, hb, e => by
    rw [List.map_cons] at h
    obtain ⟨h1, h2⟩ := List.nodup_cons.1 h
    rcases List.mem_cons.1 ha with rfl | ha'
    · rcases List.mem_cons.1 hb with rfl | hb'
      · rfl
      · exact absurd (List.mem_map.2 ⟨b, hb', e.symm⟩) h1
    · rcases List.mem_cons.1 hb with rfl | hb'
      · exact absurd (by rw [← e]; exact List.mem_map_of_mem ha') h1
      · exact nd_inj h2 ha' hb' e
section
variable {bb : List UInt8} {m : Nat} {s : DS}
theorem KeptC.did (h : KeptC bb m s) : KeptC bb m s.did := ⟨h.fil, h.fx, h.chs, h.ls, h.sz⟩
theorem KeptC.more (h : KeptC bb m s) {m' : Nat} (hm : m ≤ m') : KeptC bb m' s := ⟨h.fil, h.fx, h.chs, h.ls, Nat.le_trans h.sz hm⟩
theorem KeptC.note (h : KeptC bb m s) {c : CHG} (hc : c.1 ≠ nmK ∧ c.2.1 ≠ nmK) : KeptC bb (m + 1) (s.note c) := ⟨h.fil, h.fx, fun x hx => by
    rcases List.mem_append.1 hx with hx | hx
    · exact h.chs x hx
    · rw [List.mem_singleton.1 hx]; exact hc, h.ls, by have := h.sz; simp only [DS.size, DS.note, List.length_append, List.length_singleton] at this ⊢; omega⟩
theorem Kept.dir (h : Kept bb m s) : asc nmK s.dir = some 0 := by rw [h.1.tie]; exact asc_tns h.1.ok.ndx h.2.fx h.2.chs
theorem Kept.other (h : Kept bb m s) {nm : ByteArray} {k : Int} (hn : nm ≠ nmK) (hk : asc nm s.dir = some k) : 0 < k := by
  have h1 := asc_some hk
  have h2 := asc_some h.dir
  have h3 : 0 ≤ k := (h.1.ok.dir _ h1).1
  have h4 : k ≠ 0 := fun e => hn (by
    have := nd_inj (f := fun p : ByteArray × Int => p.2) h.1.vals h1 h2 e
    injection this)
  omega
theorem KeptC.fat (h : KeptC bb m s) : fat s.fs 0 = (bb, bb) := by rw [Go.Proofs.Ytcdebnppbnmmgaa.fat, List.getD_eq_getElem?_getD, show (0 : Int).toNat = 0 from rfl, h.fil]; rfl
theorem nmK_ne : (⟨#[]⟩ : ByteArray) ≠ nmK := by decide
theorem Kept.create (h : Kept bb m s) {nm : ByteArray} (hn : nm ≠ nmK) : Kept bb (m + 2) (s.create nm).2 := by
  refine ⟨h.1.create nm, ?_⟩
  rw [DS.create]
  split
  · exact h.2.more (by omega)
  · split
    · exact h.2.more (by omega)
    · split
      · exact h.2.more (by omega)
      · split
        · exact h.2.more (by omega)
        · have h0 : KeptC bb (m + 1) { s with fs := s.fs ++ [([], [])] } := ⟨by
            have hf := h.2.fil
            show (s.fs ++ [([], [])])[0]? = _
            rw [List.getElem?_append_left (List.getElem?_eq_some_iff.1 hf).1]; exact hf, h.2.fx, h.2.chs, h.2.ls, by have := h.2.sz; simp only [DS.size, List.length_append, List.length_singleton] at this ⊢; omega⟩
          exact (h0.note ⟨nmK_ne, hn⟩).did
theorem Kept.delete (h : Kept bb m s) {nm : ByteArray} (hn : nm ≠ nmK) : Kept bb (m + 2) (s.delete nm).2 := by
  refine ⟨h.1.delete nm, ?_⟩
  rw [DS.delete]
  split
  · exact h.2.more (by omega)
  · split
    · exact h.2.more (by omega)
    · exact (h.2.note ⟨hn, nmK_ne⟩).did.more (by omega)
theorem Kept.rename (h : Kept bb m s) {nm to : ByteArray} (hn : nm ≠ nmK) (ht : to ≠ nmK) : Kept bb (m + 2) (s.rename nm to).2 := by
  refine ⟨h.1.rename nm to, ?_⟩
  rw [DS.rename]
  split
  · exact h.2.more (by omega)
  · split
    · exact h.2.more (by omega)
    · split
      · exact h.2.more (by omega)
      · refine KeptC.did ?_
        split
        · exact h.2.more (by omega)
        · exact (h.2.note ⟨hn, ht⟩).more (by omega)
theorem Kept.syncDir (h : Kept bb m s) : Kept bb (m + 2) s.syncDir.2 := by
  refine ⟨h.1.syncDir, ?_⟩
  have hd := h.dir
  rw [DS.syncDir]
  split
  · exact h.2.more (by omega)
  · exact KeptC.did ⟨h.2.fil, hd, fun c hc => (by cases hc), h.2.ls, by have := h.2.sz; simp only [DS.size, List.length_nil] at this ⊢; omega⟩
theorem set_fil {fs : List FILE} {k : Int} {f : FILE} (hk : 0 < k) (h : fs[0]? = some (bb, bb)) : (fs.set k.toNat f)[0]? = some (bb, bb) := by rw [List.getElem?_set_ne (by omega)]; exact h
theorem Kept.sync (h : Kept bb m s) {nm : ByteArray} (hn : nm ≠ nmK) : Kept bb (m + 2) (s.sync nm).2 := by
  refine ⟨h.1.sync nm, ?_⟩
  rw [DS.sync]
  split
  · exact h.2.more (by omega)
  · split
    · exact h.2.more (by omega)
    · rename_i k hk
      exact KeptC.did ⟨set_fil (h.other hn hk) h.2.fil, h.2.fx, h.2.chs, fun p hp => h.2.ls p (List.mem_filter.1 hp).1, by have := h.2.sz; simp only [DS.size, List.length_set] at this ⊢; omega⟩
theorem markL_ne {k : Int} (hk : k ≠ 0) : ∀ (n s : Nat) (l : LS), (∀ p, p ∈ l → p.1.1 ≠ 0) → ∀ p, p ∈ markL k s n l → p.1.1 ≠ 0
  | 0, _, _, h => h
  | n + 1, s, l, h => markL_ne hk n (s + 1) _ (fun p hp => by
      rcases put_mem hp with h1 | h1
      · rw [h1]; exact hk
      · exact h p h1)
theorem Kept.write (h : Kept bb m s) {nm : ByteArray} (hn : nm ≠ nmK) (a : Int) (x : List UInt8) : Kept bb (m + 2) (s.write nm a x).2 := by
  refine ⟨h.1.write nm a x, ?_⟩
  rw [DS.write]
  split
  · exact h.2.more (by omega)
  · split
    · exact h.2.more (by omega)
    · rename_i k hk
      have hk0 := h.other hn hk
      split
      · exact h.2.more (by omega)
      · split
        · exact h.2.more (by omega)
        · split
          · exact h.2.more (by omega)
          · exact KeptC.did ⟨set_fil hk0 h.2.fil, h.2.fx, h.2.chs, markL_ne (by omega) _ _ _ h.2.ls, by have := h.2.sz; simp only [DS.size, List.length_set] at this ⊢; omega⟩
theorem Kept.fuse (h : Kept bb m s) (n : Int) : Kept bb (m + 2) (s.fuse n).2 := by
  refine ⟨h.1.fuse n, ?_⟩
  rw [DS.fuse]
  split
  · exact h.2.more (by omega)
  · exact ⟨h.2.fil, h.2.fx, h.2.chs, h.2.ls, by have := h.2.sz; simp only [DS.size] at this ⊢; omega⟩
theorem spots_none (h : KeptC bb m s) : s.spots 0 = [] := by
  refine List.map_eq_nil_iff.2 (List.filter_eq_nil_iff.2 fun i _ => ?_)
  have : asc ((0 : Int), (i : Int)) s.ls = none := asc_none.2 fun p hp e => h.ls p hp (by rw [e])
  rw [this]; simp
theorem keptB_at (h : KeptC bb m s) (kp sz : List Bool) (n k : Nat) : keptB kp n (s.spots 0) (Go.Proofs.Ytcdebnppbnmmgaa.fat s.fs 0) (sizeK sz k (Go.Proofs.Ytcdebnppbnmmgaa.fat s.fs 0)) = bb := by
  rw [spots_none h, h.fat, keptB, zaps, sizeK, if_neg (by simp)]
  simp
theorem loseF_kept (h : KeptC bb m s) {d : DIR} (hd : (d.map (·.1)).Nodup) (hv : (d.map (·.2)).Nodup) (h0 : asc nmK d = some 0) (kp sz : List Bool) : ∀ (l : List Int) (n k : Nat) (o : List FILE × DIR), ((0 : Int) ∈ l ∨ ∃ j : Nat, asc nmK o.2 = some (j : Int) ∧ o.1[j]? = some (bb, bb)) →
    ∃ j : Nat, asc nmK (loseF s d kp sz l n k o).2 = some (j : Int) ∧ (loseF s d kp sz l n k o).1[j]? = some (bb, bb)
  | [], _, _, o, hh => by
    rcases hh with hh | hh
    · cases hh
    · exact hh
  | x :: l, n, k, o, hh => by
    rw [loseF]
    refine loseF_kept h hd hv h0 kp sz l _ _ _ ?_
    by_cases hx : x = 0
    · subst hx
      have h1 : nameOf d 0 = some nmK := (nameOf_some hv).2 (asc_some h0)
      rw [h1]
      refine .inr ⟨o.1.length, ?_, ?_⟩
      · show asc nmK (put nmK (o.1.length : Int) o.2) = _
        rw [asc_put, if_pos rfl]
      · show (o.1 ++ [_])[o.1.length]? = _
        rw [List.getElem?_append_right (Nat.le_refl _), Nat.sub_self, keptB_at h]; rfl
    · rcases hh with hh | ⟨j, h1, h2⟩
      · rcases List.mem_cons.1 hh with hh | hh
        · exact absurd hh.symm hx
        · exact .inl hh
      · refine .inr ⟨j, ?_⟩
        cases hn : nameOf d x with
        | none => exact ⟨h1, h2⟩
        | some nm =>
          have h3 := (nameOf_some hv).1 hn
          have h4 : nmK ≠ nm := fun e => hx (by
            have := asc_mem hd h3
            rw [← e, h0] at this
            injection this with this
            exact this.symm)
          refine ⟨?_, ?_⟩
          · show asc nmK (put nm (o.1.length : Int) o.2) = _
            rw [asc_put, if_neg h4]; exact h1
          · show (o.1 ++ [_])[j]? = _
            rw [List.getElem?_append_left (List.getElem?_eq_some_iff.1 h2).1]; exact h2
theorem Kept.lose (h : Kept bb m s) (dn : Nat) (kp sz : List Bool) : ∃ j : Nat, asc nmK (s.lose dn kp sz).dir = some (j : Int) ∧ (s.lose dn kp sz).fs[j]? = some (bb, bb) := by
  have h1 : asc nmK (tns (s.chs.take dn) s.fx) = some 0 := asc_tns h.1.ok.ndx h.2.fx fun c hc => h.2.chs c (List.mem_of_mem_take hc)
  have h2 : (0 : Int) ∈ s.near := nrs_mem.2 (List.mem_append.2 (.inl (List.mem_map.2 ⟨_, asc_some h.2.fx, rfl⟩)))
  exact loseF_kept h.2 (tns_nd h.1.ok.ndx) (h.1.inj dn) h1 kp sz s.near 0 0 ([], []) (.inl h2)
theorem fat_jt {fs : List FILE} {j : Nat} {f : FILE} (h : fs[j]? = some f) : fat fs (j : Int) = f := by rw [Go.Proofs.Ytcdebnppbnmmgaa.fat, List.getD_eq_getElem?_getD, Int.toNat_natCast, h]; rfl
theorem read_at {t : DS} {j : Nat} (h1 : asc nmK t.dir = some (j : Int)) (h2 : t.fs[j]? = some (bb, bb)) : t.read nmK 0 (bb.length : Int) = (bb, 0) := by
  rw [DS.read, h1]
  simp only [fat_jt h2]
  rw [if_neg (by omega)]
  simp
theorem sizeOf_at {t : DS} {j : Nat} (h1 : asc nmK t.dir = some (j : Int)) (h2 : t.fs[j]? = some (bb, bb)) : t.sizeOf nmK = ((bb.length : Int), 0) := by
  rw [DS.sizeOf, h1]
  show (((flen t.fs (j : Int) : Nat) : Int), (0 : Int)) = _
  rw [flen, List.getD_eq_getElem?_getD, Int.toNat_natCast, h2]; rfl
end
/-! ### the first four acts -/
def stK (f : FILE) (fx : DIR) (chs : List CHG) (ls : LS) : DS := { rm := 1000, fs := [f], dir := [(nmK, 0)], fx := fx, chs := chs, ls := ls, fu := false, lf := 0 }
theorem sK_create : (DS.mk0 1000 [] [] []).create nmK = (0, stK ([], []) [] [(⟨#[]⟩, nmK, 0)] []) := by kernel_rfl
theorem asc_K : asc nmK [(nmK, (0 : Int))] = some 0 := by kernel_rfl
theorem used_K (f : FILE) (fx : DIR) (chs : List CHG) (ls : LS) : (stK f fx chs ls).used = secs f.1.length := by
  rw [DS.used, costs, stK]
  show (cost (flen [f]) [(nmK, 0)] nmK) + 0 = _
  rw [cost, asc_K]; rfl
def sK1 : DS := stK ([], []) [] [(⟨#[]⟩, nmK, 0)] []
def sK2 (bb : List UInt8) : DS := stK (bb, []) [] [(⟨#[]⟩, nmK, 0)] (markL 0 0 (touched 0 bb.length) [])
def sK2' (bb : List UInt8) : DS := stK (bb, bb) [] [(⟨#[]⟩, nmK, 0)] []
def sK3 (bb : List UInt8) : DS := stK (bb, bb) [(nmK, 0)] [] []
theorem eK2 {x : List UInt8} (hx : x.length ≤ 400) : sK1.write nmK 0 x = (0, sK2 x) := by
  have hU := used_K ([], []) [] [(⟨#[]⟩, nmK, 0)] []
  rw [sK1, DS.write, hU, if_neg (show ¬ (stK ([], []) [] [(⟨#[]⟩, nmK, 0)] []).down = true from Bool.false_ne_true), show (stK ([], []) [] [(⟨#[]⟩, nmK, 0)] []).dir = [(nmK, 0)] from rfl, asc_K]
  simp only [show fat (stK ([], []) [] [(⟨#[]⟩, nmK, 0)] []).fs 0 = ([], []) from rfl]
  rw [if_neg (by simp), if_neg (by simp; omega), if_neg (by
      have e : (stK ([], []) [] [(⟨#[]⟩, nmK, 0)] []).rm = 1000 := rfl
      rw [e]; simp only [secs, List.length_nil]; omega)]
  have e : wrt [] (0 : Int).toNat x = x := wrt_nil x
  rw [e]; rfl
theorem eK2' (bb : List UInt8) : (sK2 bb).sync nmK = (0, sK2' bb) := by
  rw [sK2, DS.sync, if_neg (show ¬ (stK (bb, []) [] [(⟨#[]⟩, nmK, 0)] _).down = true from Bool.false_ne_true), show (stK (bb, []) [] [(⟨#[]⟩, nmK, 0)] (markL 0 0 (touched 0 bb.length) [])).dir = [(nmK, 0)] from rfl, asc_K]
  have e : (stK (bb, []) [] [(⟨#[]⟩, nmK, 0)] (markL 0 0 (touched 0 bb.length) [])).ls = markL 0 0 (touched 0 bb.length) [] := rfl
  simp only [e, markL_filter]; rfl
theorem eK3 (bb : List UInt8) : (sK2' bb).syncDir = (0, sK3 bb) := by
  rw [sK2', DS.syncDir, if_neg (show ¬ (stK (bb, bb) [] [(⟨#[]⟩, nmK, 0)] []).down = true from Bool.false_ne_true)]; rfl
theorem iK1 : sK1.Inv := by have := (Inv_new (rm := 1000) (by decide)).create nmK; rw [sK_create] at this; exact this
theorem iK2 {x : List UInt8} (h : x.length ≤ 400) : (sK2 x).Inv := by have := iK1.write nmK 0 x; rw [eK2 h] at this; exact this
theorem iK2' {x : List UInt8} (h : x.length ≤ 400) : (sK2' x).Inv := by have := (iK2 h).sync nmK; rw [eK2'] at this; exact this
theorem iK3 {x : List UInt8} (h : x.length ≤ 400) : (sK3 x).Inv := by have := (iK2' h).syncDir; rw [eK3] at this; exact this
theorem kept3 {x : List UInt8} (h : x.length ≤ 400) : Kept x 1 (sK3 x) := ⟨iK3 h, rfl, asc_K, fun c hc => (by cases hc), fun p hp => (by cases hp), Nat.le_refl _⟩
end Go.Proofs.Ytcdebnppbnmmgaa

namespace Go.Proofs.Ytcdebnppbnmmgaa
open Go Go.Proofs.Ytcdebnppbnmmgaa.X
set_option linter.unusedVariables false
set_option linter.unusedSimpArgs false
theorem ext_cons {α : Type} (P : α → Prop) {x : α} (h : P x) : P x := h
-- f16 "pedigree/pedigreelaw05.cut" params [48] results [48] -> [(ResultVar.cell 2 48)] nfree 0 ntmps 50 names
set_option maxHeartbeats 4000000 in
set_option maxRecDepth 100000 in
theorem cut_c {y1 y4 y6 : Int} {nm to : ByteArray} {A A2 A3 : Option Addr} {n c n2 c2 n3 c3 lo hi : Nat} {xs : List UInt8} {w0 : World} (w : World) (hnc : n ≤ c) (hnc2 : n2 ≤ c2) (hnc3 : n3 ≤ c3) (hs : Sl KB lo hi w0 A n xs) : Ret Try.prog 16 #[.agg #[.int .i64 y1, .string nm, .string to, .int .i64 y4, .slice A n c, .int .i64 y6, .slice A2 n2 c2, .slice A3 n3 c3]] w fun r w' => ∃ nm' to' n' n2' n3', r = .agg #[.int .i64 y1, .string nm', .string to', .int .i64 y4, .slice A n' c, .int .i64 y6, .slice A2 n2' c2, .slice A3 n3' c3] ∧ nm'.size ≤ 65 ∧ to'.size ≤ 65 ∧ (n' ≤ 400 ∧ n' ≤ c ∧ ∃ xs', Sl KB lo hi w0 A n' xs') ∧ Keep w w' := by
  refine X.enter Try.func16 rfl Try.ntmps16 rfl ?_
  refine X.seq ?_
  refine X.region ?_
  refine X.opE X.wN rfl (X.boxE rfl rfl) ?_
  rintro _ w1 ⟨rfl, hB1, hk1, hz1⟩
  refine X.opE X.wN rfl (X.allocE Try.zeroValue48 rfl) ?_
  rintro _ w2 ⟨rfl, hB2, hk2, hz2⟩
  refine X.opsEnd ?_
  refine X.seq ?_
  -- JOIN live: 1=o, 2
  have hkA := (hk1.trans hk2)
  have hB2 := hB2
  refine X.joinW (σ := ByteArray) (fun s => [(1, .pointer (some ⟨w.heap.size, 0, none⟩)), (2, .pointer (some ⟨w1.heap.size, 0, none⟩))]) (fun s w' => s.size ≤ 65 ∧ Blk w' w.heap.size [.int .i64 y1, .string s, .string to, .int .i64 y4, .slice A n c, .int .i64 y6, .slice A2 n2 c2, .slice A3 n3 c3] 48 ∧ Ext (fun q => q = w.heap.size) w2 w') (fun hjoin => ?_) ?_
  · refine X.seq ?_
    refine X.region ?_
    refine X.opw X.wN rfl (X.fldB (j := 1) Try.underlying48 rfl rfl Try.sizeOf9 rfl) ?_
    refine X.opw X.wN rfl (X.load1B Try.isAgg9 (hB1.keep hk2) rfl rfl) ?_
    refine X.opw X.wN rfl (X.lenS Try.underlying9 rfl) ?_
    refine X.opP X.wN rfl rfl (X.gtr rfl rfl) (fun h6 => ?_) (fun h6 => ?_)
    · refine X.opsEnd ?_
      refine X.condT rfl ?_
      refine X.region ?_
      refine X.opw X.wN rfl (X.fldB (j := 1) Try.underlying48 rfl rfl Try.sizeOf9 rfl) ?_
      refine X.opw X.wN rfl (X.load1B Try.isAgg9 (hB1.keep hk2) rfl rfl) ?_
      refine X.opw X.wN rfl (X.cutSH Try.underlying9 rfl rfl ⟨by omega, by omega⟩) ?_
      refine X.opw X.wN rfl (X.fldB (j := 1) Try.underlying48 rfl rfl Try.sizeOf9 rfl) ?_
      refine X.opE X.wN rfl (X.storeE Try.sizeOf9 (hB1.keep hk2) rfl rfl rfl rfl) ?_
      rintro _ w3 ⟨hB3, hx3, hz3⟩
      refine X.opsEnd ?_
      refine hjoin (nm.extract 0 65) _ _ ⟨rfl, rfl, trivial⟩ ⟨by rw [ByteArray.size_extract]; omega, hB3, (Ext.andThen (Ext.refl (fun q => q = w.heap.size) w2) hx3 (by intro q h1 h2; exact h2))⟩
    · refine X.opsEnd ?_
      refine X.condF rfl ?_
      refine X.skip ?_
      refine hjoin nm _ _ ⟨rfl, rfl, trivial⟩ ⟨by omega, (hB1.keep hk2), (Ext.refl (fun q => q = w.heap.size) w2)⟩
  rintro nm' b1 wj1 ⟨hn1, hBj1, hj1⟩
  refine X.seq ?_
  -- JOIN live: 1=o, 2
  refine X.joinW (σ := ByteArray) (fun s => [(1, .pointer (some ⟨w.heap.size, 0, none⟩)), (2, .pointer (some ⟨w1.heap.size, 0, none⟩))]) (fun s w' => s.size ≤ 65 ∧ Blk w' w.heap.size [.int .i64 y1, .string nm', .string s, .int .i64 y4, .slice A n c, .int .i64 y6, .slice A2 n2 c2, .slice A3 n3 c3] 48 ∧ Ext (fun q => q = w.heap.size) w2 w') (fun hjoin => ?_) ?_
  · refine X.seq ?_
    refine X.region ?_
    refine X.opw X.wN rfl (X.fldB (j := 2) Try.underlying48 rfl rfl Try.sizeOf9 rfl) ?_
    refine X.opw X.wN rfl (X.load1B Try.isAgg9 hBj1 rfl rfl) ?_
    refine X.opw X.wN rfl (X.lenS Try.underlying9 rfl) ?_
    refine X.opP X.wN rfl rfl (X.gtr rfl rfl) (fun h14 => ?_) (fun h14 => ?_)
    · refine X.opsEnd ?_
      refine X.condT rfl ?_
      refine X.region ?_
      refine X.opw X.wN rfl (X.fldB (j := 2) Try.underlying48 rfl rfl Try.sizeOf9 rfl) ?_
      refine X.opw X.wN rfl (X.load1B Try.isAgg9 hBj1 rfl rfl) ?_
      refine X.opw X.wN rfl (X.cutSH Try.underlying9 rfl rfl ⟨by omega, by omega⟩) ?_
      refine X.opw X.wN rfl (X.fldB (j := 2) Try.underlying48 rfl rfl Try.sizeOf9 rfl) ?_
      refine X.opE X.wN rfl (X.storeE Try.sizeOf9 hBj1 rfl rfl rfl rfl) ?_
      rintro _ w4 ⟨hB4, hx4, hz4⟩
      refine X.opsEnd ?_
      refine hjoin (to.extract 0 65) _ _ ⟨rfl, rfl, trivial⟩ ⟨by rw [ByteArray.size_extract]; omega, hB4, (Ext.andThen (Ext.andThen (Ext.refl (fun q => q = w.heap.size) w2) hj1 (by intro q h1 h2; exact h2)) hx4 (by intro q h1 h2; exact h2))⟩
    · refine X.opsEnd ?_
      refine X.condF rfl ?_
      refine X.skip ?_
      refine hjoin to _ _ ⟨rfl, rfl, trivial⟩ ⟨by omega, hBj1, (Ext.andThen (Ext.refl (fun q => q = w.heap.size) w2) hj1 (by intro q h1 h2; exact h2))⟩
  rintro to' b2 wj2 ⟨hn2, hBj2, hj2⟩
  refine X.seq ?_
  -- JOIN live: 1=o, 2
  refine X.joinW (σ := Nat) (fun s => [(1, .pointer (some ⟨w.heap.size, 0, none⟩)), (2, .pointer (some ⟨w1.heap.size, 0, none⟩))]) (fun s w' => (s ≤ 400 ∧ s ≤ c ∧ ∃ xs', Sl KB lo hi w0 A s xs') ∧ Blk w' w.heap.size [.int .i64 y1, .string nm', .string to', .int .i64 y4, .slice A s c, .int .i64 y6, .slice A2 n2 c2, .slice A3 n3 c3] 48 ∧ Ext (fun q => q = w.heap.size) w2 w') (fun hjoin => ?_) ?_
  · refine X.seq ?_
    refine X.region ?_
    refine X.opw X.wN rfl (X.fldB (j := 4) Try.underlying48 rfl rfl Try.sizeOf22 rfl) ?_
    refine X.opw X.wN rfl (X.load1B Try.isAgg22 hBj2 rfl rfl) ?_
    refine X.opw X.wN rfl (X.lenSl Try.underlying22 rfl) ?_
    refine X.opP X.wN rfl rfl (X.gtr rfl rfl) (fun h22 => ?_) (fun h22 => ?_)
    · refine X.opsEnd ?_
      refine X.condT rfl ?_
      refine X.region ?_
      refine X.opw X.wN rfl (X.fldB (j := 4) Try.underlying48 rfl rfl Try.sizeOf22 rfl) ?_
      refine X.opw X.wN rfl (X.load1B Try.isAgg22 hBj2 rfl rfl) ?_
      refine X.opw X.wN rfl (X.cutHr Try.underlying22 Try.sizeOf5 rfl rfl (by omega)) ?_
      refine X.opw X.wN rfl (X.fldB (j := 4) Try.underlying48 rfl rfl Try.sizeOf22 rfl) ?_
      refine X.opE X.wN rfl (X.storeE Try.sizeOf22 hBj2 rfl rfl rfl rfl) ?_
      rintro _ w5 ⟨hB5, hx5, hz5⟩
      refine X.opsEnd ?_
      refine hjoin 400 _ _ ⟨rfl, rfl, trivial⟩ ⟨⟨by omega, by omega, _, hs.take 400 (by omega)⟩, hB5, (Ext.andThen (Ext.andThen (Ext.refl (fun q => q = w.heap.size) w2) hj2 (by intro q h1 h2; exact h2)) hx5 (by intro q h1 h2; exact h2))⟩
    · refine X.opsEnd ?_
      refine X.condF rfl ?_
      refine X.skip ?_
      refine hjoin n _ _ ⟨rfl, rfl, trivial⟩ ⟨⟨by omega, hnc, _, hs⟩, hBj2, (Ext.andThen (Ext.refl (fun q => q = w.heap.size) w2) hj2 (by intro q h1 h2; exact h2))⟩
  rintro n' b3 wj3 ⟨hn3, hBj3, hj3⟩
  refine X.seq ?_
  -- JOIN live: 1=o, 2
  refine X.joinW (σ := Nat) (fun s => [(1, .pointer (some ⟨w.heap.size, 0, none⟩)), (2, .pointer (some ⟨w1.heap.size, 0, none⟩))]) (fun s w' => s ≤ c2 ∧ Blk w' w.heap.size [.int .i64 y1, .string nm', .string to', .int .i64 y4, .slice A n' c, .int .i64 y6, .slice A2 s c2, .slice A3 n3 c3] 48 ∧ Ext (fun q => q = w.heap.size) w2 w') (fun hjoin => ?_) ?_
  · refine X.seq ?_
    refine X.region ?_
    refine X.opw X.wN rfl (X.fldB (j := 5) Try.underlying48 rfl rfl Try.sizeOf25 rfl) ?_
    refine X.opw X.wN rfl (X.fldB (j := 6) Try.underlying25 rfl rfl Try.sizeOf23 rfl) ?_
    refine X.opw X.wN rfl (X.load1B Try.isAgg23 hBj3 rfl rfl) ?_
    refine X.opw X.wN rfl (X.lenSl Try.underlying23 rfl) ?_
    refine X.opP X.wN rfl rfl (X.gtr rfl rfl) (fun h31 => ?_) (fun h31 => ?_)
    · refine X.opsEnd ?_
      refine X.condT rfl ?_
      refine X.region ?_
      refine X.opw X.wN rfl (X.fldB (j := 5) Try.underlying48 rfl rfl Try.sizeOf25 rfl) ?_
      refine X.opw X.wN rfl (X.fldB (j := 6) Try.underlying25 rfl rfl Try.sizeOf23 rfl) ?_
      refine X.opw X.wN rfl (X.load1B Try.isAgg23 hBj3 rfl rfl) ?_
      refine X.opw X.wN rfl (X.cutHr Try.underlying23 Try.sizeOf4 rfl rfl (by omega)) ?_
      refine X.opw X.wN rfl (X.fldB (j := 5) Try.underlying48 rfl rfl Try.sizeOf25 rfl) ?_
      refine X.opw X.wN rfl (X.fldB (j := 6) Try.underlying25 rfl rfl Try.sizeOf23 rfl) ?_
      refine X.opE X.wN rfl (X.storeE Try.sizeOf23 hBj3 rfl rfl rfl rfl) ?_
      rintro _ w6 ⟨hB6, hx6, hz6⟩
      refine X.opsEnd ?_
      refine hjoin 200 _ _ ⟨rfl, rfl, trivial⟩ ⟨by omega, hB6, (Ext.andThen (Ext.andThen (Ext.refl (fun q => q = w.heap.size) w2) hj3 (by intro q h1 h2; exact h2)) hx6 (by intro q h1 h2; exact h2))⟩
    · refine X.opsEnd ?_
      refine X.condF rfl ?_
      refine X.skip ?_
      refine hjoin n2 _ _ ⟨rfl, rfl, trivial⟩ ⟨hnc2, hBj3, (Ext.andThen (Ext.refl (fun q => q = w.heap.size) w2) hj3 (by intro q h1 h2; exact h2))⟩
  rintro n2' b4 wj4 ⟨hn4, hBj4, hj4⟩
  refine X.seq ?_
  -- JOIN live: 1=o, 2
  refine X.joinW (σ := Nat) (fun s => [(1, .pointer (some ⟨w.heap.size, 0, none⟩)), (2, .pointer (some ⟨w1.heap.size, 0, none⟩))]) (fun s w' => s ≤ c3 ∧ Blk w' w.heap.size [.int .i64 y1, .string nm', .string to', .int .i64 y4, .slice A n' c, .int .i64 y6, .slice A2 n2' c2, .slice A3 s c3] 48 ∧ Ext (fun q => q = w.heap.size) w2 w') (fun hjoin => ?_) ?_
  · refine X.seq ?_
    refine X.region ?_
    refine X.opw X.wN rfl (X.fldB (j := 5) Try.underlying48 rfl rfl Try.sizeOf25 rfl) ?_
    refine X.opw X.wN rfl (X.fldB (j := 7) Try.underlying25 rfl rfl Try.sizeOf23 rfl) ?_
    refine X.opw X.wN rfl (X.load1B Try.isAgg23 hBj4 rfl rfl) ?_
    refine X.opw X.wN rfl (X.lenSl Try.underlying23 rfl) ?_
    refine X.opP X.wN rfl rfl (X.gtr rfl rfl) (fun h42 => ?_) (fun h42 => ?_)
    · refine X.opsEnd ?_
      refine X.condT rfl ?_
      refine X.region ?_
      refine X.opw X.wN rfl (X.fldB (j := 5) Try.underlying48 rfl rfl Try.sizeOf25 rfl) ?_
      refine X.opw X.wN rfl (X.fldB (j := 7) Try.underlying25 rfl rfl Try.sizeOf23 rfl) ?_
      refine X.opw X.wN rfl (X.load1B Try.isAgg23 hBj4 rfl rfl) ?_
      refine X.opw X.wN rfl (X.cutHr Try.underlying23 Try.sizeOf4 rfl rfl (by omega)) ?_
      refine X.opw X.wN rfl (X.fldB (j := 5) Try.underlying48 rfl rfl Try.sizeOf25 rfl) ?_
      refine X.opw X.wN rfl (X.fldB (j := 7) Try.underlying25 rfl rfl Try.sizeOf23 rfl) ?_
      refine X.opE X.wN rfl (X.storeE Try.sizeOf23 hBj4 rfl rfl rfl rfl) ?_
      rintro _ w7 ⟨hB7, hx7, hz7⟩
      refine X.opsEnd ?_
      refine hjoin 50 _ _ ⟨rfl, rfl, trivial⟩ ⟨by omega, hB7, (Ext.andThen (Ext.andThen (Ext.refl (fun q => q = w.heap.size) w2) hj4 (by intro q h1 h2; exact h2)) hx7 (by intro q h1 h2; exact h2))⟩
    · refine X.opsEnd ?_
      refine X.condF rfl ?_
      refine X.skip ?_
      refine hjoin n3 _ _ ⟨rfl, rfl, trivial⟩ ⟨hnc3, hBj4, (Ext.andThen (Ext.refl (fun q => q = w.heap.size) w2) hj4 (by intro q h1 h2; exact h2))⟩
  rintro n3' b5 wj5 ⟨hn5, hBj5, hj5⟩
  refine X.seq ?_
  refine X.region ?_
  refine X.opw X.wN rfl (X.loadNB Try.isAgg48 Try.sizeOf48 hBj5 rfl rfl rfl) ?_
  refine X.opE X.wN rfl (X.storeNE Try.sizeOf48 (hB2.ext hj5 (by intros; (try simp only []); omega)) rfl rfl rfl rfl (fun u hu => by simp at hu; rcases hu with rfl | rfl | rfl | rfl | rfl | rfl | rfl | rfl <;> rfl)) ?_
  rintro _ w8 ⟨hB8, hx8, hz8⟩
  refine X.opsEnd ?_
  refine X.ret_unw (X.unwR1 Try.func16 Try.results16 (X.ResOk.cell rfl (X.lvN Try.isAgg48 Try.sizeOf48 hB8 rfl)) ?_)
  exact ⟨_, _, _, _, _, rfl, hn1, hn2, hn3, ((hkA.step hj5 (by intro q g1; have g1 : q = _ := g1; omega)).step hx8 (by intro q g1; have g1 : q = _ := g1; omega))⟩
-- f40 "pedigree/pedigreeref05.New" params [3] results [44, 3] -> [(ResultVar.tmp 2), (ResultVar.tmp 3)] nfree
set_option maxHeartbeats 4000000 in
set_option maxRecDepth 100000 in
theorem RNew_c (rm : Int) (w : World) (hrm : 1 ≤ rm ∧ rm ≤ 1048576) : Ret Try.prog 40 #[.int .i64 rm] w fun r w' => r = .tuple #[ptrV w.heap.size, .int .i64 0] ∧ Blk w' w.heap.size [.int .i64 rm, .slice none 0 0, .slice none 0 0, .slice none 0 0, .slice none 0 0, .bool false, .int .i64 0] 110 ∧ Keep w w' := by
  refine X.enter Try.func40 rfl Try.ntmps40 rfl ?_
  refine X.seq ?_
  refine X.region ?_
  refine X.opw X.wN rfl (X.assign rfl) ?_
  refine X.opw X.wN rfl (X.assign rfl) ?_
  refine X.opsEnd ?_
  refine X.seq ?_
  refine X.seq ?_
  refine X.region ?_
  refine X.opw X.wN rfl (X.move (v := .int .i64 _) rfl) ?_
  refine X.opP X.wN rfl rfl (X.lss rfl rfl) (fun h5 => ?_) (fun h5 => ?_)
  · exact absurd h5 (by omega)
  · refine X.opw X.wN rfl (X.move (v := .bool false) rfl) ?_
    refine X.opw (X.wG rfl rfl rfl) rfl (X.move (v := .int .i64 _) rfl) ?_
    refine X.opP (X.wG rfl rfl rfl) rfl rfl (X.gtr rfl rfl) (fun h8 => ?_) (fun h8 => ?_)
    · exact absurd h8 (by omega)
    · refine X.opw X.wN rfl (X.pickF (v := .bool false) rfl rfl) ?_
      refine X.opsEnd ?_
      refine X.condF rfl ?_
      refine X.skip ?_
      refine X.seq ?_
      refine X.region ?_
      refine X.opw X.wN rfl (X.move (v := .int .i64 _) rfl) ?_
      refine X.opw X.wN rfl (X.buildB (vs := [(0, .int .i64 rm)]) (cs := #[.int .i64 rm, .slice none 0 0, .slice none 0 0, .slice none 0 0, .slice none 0 0, .bool false, .int .i64 0]) rfl (by kernel_rfl)) ?_
      refine X.opE X.wN rfl (X.boxE rfl rfl) ?_
      rintro _ w1 ⟨rfl, hB1, hk1, hz1⟩
      refine X.opw X.wN rfl (X.assign rfl) ?_
      refine X.opw X.wN rfl (X.assign rfl) ?_
      refine X.opsEnd ?_
      refine X.ret2 (v2 := (.int .i64 _)) Try.func40 Try.results40 rfl rfl ?_
      exact ⟨rfl, hB1, hk1⟩
-- f15 "pedigree/pedigreelaw05.fresh" params [3] results [41, 4] -> [(ResultVar.tmp 2), (ResultVar.tmp 3)] nfr
set_option maxHeartbeats 4000000 in
set_option maxRecDepth 100000 in
theorem fresh_c (rm : Int) (w : World) (hrm : 1 ≤ rm ∧ rm ≤ 1048576) : Ret Try.prog 15 #[.int .i64 rm] w fun r w' => ∃ b p x col, r = .tuple #[ptrV p, .bool true] ∧ Blk w' p [ptrV b, ptrV x] 46 ∧ Blk w' x [.int .i64 rm, .slice none 0 0, .slice none 0 0, .slice none 0 0, .slice none 0 0, .bool false, .int .i64 0] 110 ∧ DkR col w' b (DS.mk0 rm [] [] []) ∧ (∀ q, col q ≠ 0 → w.heap.size ≤ q) ∧ w.heap.size ≤ p ∧ w.heap.size ≤ x ∧ col p = 0 ∧ col x = 0 ∧ p ≠ x ∧ Keep w w' := by
  refine X.enter Try.func15 rfl Try.ntmps15 rfl ?_
  refine X.seq ?_
  refine X.region ?_
  refine X.opw X.wN rfl (X.assign rfl) ?_
  refine X.opw X.wN rfl (X.assign rfl) ?_
  refine X.opsEnd ?_
  refine X.seq ?_
  refine X.region ?_
  refine X.opw X.wN rfl (X.move (v := .int .i64 _) rfl) ?_
  refine X.opE X.wN rfl (X.callE (New_ok rm _ hrm) Try.call6 rfl rfl) ?_
  rintro _ w1 ⟨bd, bf, bdd, bx, bl, c0, rfl, hDk, hDc, hk1⟩
  have hR := hDk.r
  have hk1' := hk1.size
  refine X.opw X.wN rfl (X.move rfl) ?_
  refine X.opw X.wN rfl (X.extr rfl rfl) ?_
  refine X.opw X.wN rfl (X.extr rfl rfl) ?_
  refine X.opw X.wN rfl (X.assign rfl) ?_
  refine X.opw X.wN rfl (X.assign (v := .int .i64 _) rfl) ?_
  refine X.opsEnd ?_
  refine X.seq ?_
  refine X.region ?_
  refine X.opw X.wN rfl (X.move (v := .int .i64 _) rfl) ?_
  refine X.opE X.wN rfl (X.callE (RNew_c rm _ hrm) Try.call40 rfl rfl) ?_
  rintro _ w2 ⟨rfl, hXB, hk2⟩
  have hk2' := hk2.size
  refine X.opw X.wN rfl (X.move rfl) ?_
  refine X.opw X.wN rfl (X.extr rfl rfl) ?_
  refine X.opw X.wN rfl (X.extr rfl rfl) ?_
  refine X.opw X.wN rfl (X.assign rfl) ?_
  refine X.opw X.wN rfl (X.assign (v := .int .i64 _) rfl) ?_
  refine X.opsEnd ?_
  refine X.seq ?_
  refine X.region ?_
  refine X.opw X.wN rfl (X.move rfl) ?_
  refine X.opw X.wN rfl (X.move rfl) ?_
  refine X.opw X.wN rfl (X.buildB (vs := [(0, ptrV bd), (1, ptrV w1.heap.size)]) (cs := #[ptrV bd, ptrV w1.heap.size]) rfl (by kernel_rfl)) ?_
  refine X.opE X.wN rfl (X.boxE rfl rfl) ?_
  rintro _ w3 ⟨rfl, hB3, hk3, hz3⟩
  refine X.opw X.wN rfl (X.move (v := .int .i64 _) rfl) ?_
  refine X.opw X.wN rfl (X.move (v := .int .i64 _) rfl) ?_
  refine X.opw X.wN rfl (X.eqI rfl rfl) ?_
  refine X.opw X.wN rfl (X.move (v := .bool true) rfl) ?_
  refine X.opw (X.wG rfl rfl rfl) rfl (X.move rfl) ?_
  refine X.opw (X.wG rfl rfl rfl) rfl (X.eqPtrN (A := some _) Try.underlying26 rfl rfl) ?_
  refine X.opw (X.wG rfl rfl rfl) rfl (X.move rfl) ?_
  refine X.opw (X.wG rfl rfl rfl) rfl (X.eqPtrN (A := some _) Try.underlying44 rfl rfl) ?_
  refine X.opw (X.wG rfl rfl rfl) rfl (X.eqB Try.underlying4 rfl rfl) ?_
  refine X.opw X.wN rfl (X.pickT (v := .bool true) rfl rfl) ?_
  refine X.opw X.wN rfl (X.assign rfl) ?_
  refine X.opw X.wN rfl (X.assign (v := .bool true) rfl) ?_
  refine X.opsEnd ?_
  refine X.ret2 (v2 := (.bool _)) Try.func15 Try.results15 rfl rfl ?_
  exact ⟨bd, _, _, c0, rfl, hB3, (hXB.keep hk3), ((hR.keep hk2).keep hk3), hDc, by omega, by omega, Classical.byContradiction fun e => by have := hR.lt _ e; omega, Classical.byContradiction fun e => by have := hR.lt _ e; omega, by have := hXB.lt; omega, ((hk1.trans hk2).trans hk3)⟩
end Go.Proofs.Ytcdebnppbnmmgaa

namespace Go.Proofs.Ytcdebnppbnmmgaa
open Go Go.Proofs.Ytcdebnppbnmmgaa.X
set_option linter.unusedVariables false
set_option linter.unusedSimpArgs false
theorem lo_open {w : World} {cs : Array Value} {y : Int × List Bool × List Bool} (g : KLo.R 0 w.heap.size w y cs.toList) : ∃ A2 n2 c2 A3 n3 c3, cs = #[.int .i64 y.1, .slice A2 n2 c2, .slice A3 n3 c3] ∧ Sl KBo 0 w.heap.size w A2 n2 y.2.1 ∧ Sl KBo 0 w.heap.size w A3 n3 y.2.2 := by
  obtain ⟨a6, r6, e, ⟨e6, _⟩, a7, a8, rfl, ⟨A2, n2, c2, e7, _, s2⟩, A3, n3, c3, e8, _, s3⟩ := g
  subst e6 e7 e8
  exact ⟨A2, n2, c2, A3, n3, c3, Array.toList_inj.1 e, s2, s3⟩
def DkZ (g : Nat) (col : Nat → Nat) (w : World) (b : Nat) (s : DS) : Prop := DkR col w b s ∧ g ≤ w.heap.size ∧ ∀ q, q < g → col q = 0
section
variable {g : Nat} {col : Nat → Nat} {w : World} {b : Nat} {s : DS} {was bb : List UInt8} {at_ : Int}
theorem DkZ.step {w' : World} {s' : DS} (h : DkZ g col w b s) : (∃ col', DkR col' w' b s' ∧ Stp col w col' w') → ∃ col', DkZ g col' w' b s' ∧ Ext (fun q => g ≤ q) w w'
  | ⟨col', h1, h2⟩ => ⟨col', ⟨h1, by have := h2.2.size; have := h.2.1; omega, fun q hq => (h2.1 q (by have := h.2.1; omega)).trans (h.2.2 q hq)⟩, h2.2.mono fun q _ hq => Nat.le_of_not_lt fun e => hq (h.2.2 q e)⟩
theorem DkZ.keep {w' : World} (h : DkZ g col w b s) (hk : Keep w w') : DkZ g col w' b s := ⟨h.1.keep hk, by have := hk.size; have := h.2.1; omega, h.2.2⟩
theorem createF_c (h : DkZ g col w b (DS.mk0 1000 [] [] [])) : Ret Try.prog 7 #[ptrV b, .string nmF] w fun r w' => r = .int .i64 0 ∧ ∃ col', DkZ g col' w' b sF1 ∧ Ext (fun q => g ≤ q) w w' :=
  (createR_c h.1 (Inv_new (rm := 1000) (by decide)).ok nmF (by decide) (by decide)).mono fun r w' ⟨h1, h2⟩ => ⟨h1.trans (by rw [sF_create]), h.step (by rw [sF_create] at h2; exact h2)⟩
theorem writeF_c {A : Option Addr} {n c : Nat} (h : DkZ g col w b sF1) (hs : Sl KB 0 g w A n was) (hn : n ≤ 400) : Ret Try.prog 8 #[ptrV b, .string nmF, .int .i64 0, .slice A n c] w fun r w' => r = .int .i64 0 ∧ ∃ col', DkZ g col' w' b (sF2 was) ∧ Ext (fun q => g ≤ q) w w' :=
  (writeR_c h.1 iF1.ok nmF 0 (by decide) hs (fun q _ h2 => ⟨h.2.2 q h2, by have := h.2.1; omega⟩) (by omega)).mono fun r w' ⟨h1, h2⟩ => by
    rw [eF2 (by rw [hs.len]; omega)] at h1 h2; exact ⟨h1, h.step h2⟩
theorem syncF_c (h : DkZ g col w b (sF2 was)) (hn : was.length ≤ 400) : Ret Try.prog 9 #[ptrV b, .string nmF] w fun r w' => r = .int .i64 0 ∧ ∃ col', DkZ g col' w' b (sF2' was) ∧ Ext (fun q => g ≤ q) w w' :=
  (syncR_c h.1 (iF2 hn).ok nmF (by decide)).mono fun r w' ⟨h1, h2⟩ => by rw [eF2'] at h1 h2; exact ⟨h1, h.step h2⟩
theorem syncDirF_c (h : DkZ g col w b (sF2' was)) (hn : was.length ≤ 400) : Ret Try.prog 10 #[ptrV b] w fun r w' => r = .int .i64 0 ∧ ∃ col', DkZ g col' w' b (sF3 was) ∧ Ext (fun q => g ≤ q) w w' :=
  (syncDirR_c h.1 (iF2' hn).ok).mono fun r w' ⟨h1, h2⟩ => by rw [eF3] at h1 h2; exact ⟨h1, h.step h2⟩
theorem write2F_c {A : Option Addr} {n c : Nat} (h : DkZ g col w b (sF3 was)) (hw : was.length ≤ 400) (hs : Sl KB 0 g w A n bb) (hn : n ≤ 400) (at_ : Int) (ha : -9223372036854775808 ≤ at_ ∧ at_ ≤ 9223372036854775807) : Ret Try.prog 8 #[ptrV b, .string nmF, .int .i64 at_, .slice A n c] w fun r w' => ∃ e, r = .int .i64 e ∧ (e ≠ 0 → at_ < 0 ∨ (was.length : Int) < at_) ∧ (e = 0 → ¬ (at_ < 0 ∨ (was.length : Int) < at_) ∧ ∃ col', DkZ g col' w' b (sF4 was at_ bb)) ∧ Ext (fun q => g ≤ q) w w' :=
  (writeR_c h.1 (iF3 hw).ok nmF at_ ha hs (fun q _ h2 => ⟨h.2.2 q h2, by have := h.2.1; omega⟩) (by omega)).mono fun r w' ⟨h1, h2⟩ => by
    rw [eF4 hw (by rw [hs.len]; omega)] at h1 h2
    by_cases hat : at_ < 0 ∨ (was.length : Int) < at_
    · rw [if_pos hat] at h1 h2
      obtain ⟨_, _, hx⟩ := h.step h2
      exact ⟨5, h1, fun _ => hat, fun e => by omega, hx⟩
    · rw [if_neg hat] at h1 h2
      obtain ⟨c', hz, hx⟩ := h.step h2
      exact ⟨0, h1, fun e => absurd rfl e, fun _ => ⟨hat, c', hz⟩, hx⟩
theorem sizeG_c {l f : List UInt8} (h : DkR col w b s) (hok : s.Ok) (hd : s.dir = [(nmF, 0)]) (hf : fat s.fs 0 = (l, f)) : Ret Try.prog 12 #[ptrV b, .string nmF] w fun r w' => r = .tuple #[.int .i64 (l.length : Int), .int .i64 0] ∧ Keep w w' :=
  (sizeR_c h hok nmF).mono fun r w' ⟨h1, h2⟩ => ⟨h1.trans (by
    rw [DS.sizeOf, hd, asc_F]
    show Value.tuple #[.int .i64 ((fat s.fs 0).1.length : Int), .int .i64 0] = _
    rw [hf]), h2⟩
theorem readG_c {l f : List UInt8} (h : DkR col w b s) (hok : s.Ok) (hd : s.dir = [(nmF, 0)]) (hf : fat s.fs 0 = (l, f)) : Ret Try.prog 13 #[ptrV b, .string nmF, .int .i64 0, .int .i64 (l.length : Int)] w fun r w' => ∃ A c, r = .tuple #[.slice A l.length c, .int .i64 0] ∧ l.length ≤ c ∧ Sl KB w.heap.size w'.heap.size w' A l.length l ∧ Keep w w' := by
  have hl := (hok.fatl 0).1
  rw [hf] at hl
  have hl : l.length ≤ 1048576 := hl
  refine (readR_c h hok nmF 0 (l.length : Int) (by omega)).mono fun r w' ⟨v, h1, h2, hk⟩ => ?_
  have e : s.read nmF 0 (l.length : Int) = (l, 0) := by
    rw [DS.read, hd, asc_F]
    simp only [hf]
    rw [if_neg (by omega)]
    simp
  rw [e] at h1 h2
  obtain ⟨A, c, rfl, hc, hs⟩ := (h2.flat KB_flat (lo' := w.heap.size) (hi' := w'.heap.size)).sl (fun k hk h => h)
  exact ⟨A, c, h1, hc, hs, hk⟩
theorem loseF_c {lo hi q1 r1 q2 r2 : Nat} {Aq1 Aq2 : Option Addr} {kp sz : List Bool} (h : DkR col w b (sF4 was at_ bb)) (hw : was.length ≤ 400) (hb : bb.length ≤ 400) (hat : ¬ (at_ < 0 ∨ (was.length : Int) < at_)) (hS1 : Sl KBo lo hi w Aq1 q1 kp) (hS2 : Sl KBo lo hi w Aq2 q2 sz) (hhi : hi ≤ w.heap.size) : Ret Try.prog 14 #[ptrV b, .agg #[.int .i64 0, .slice Aq1 q1 r1, .slice Aq2 q2 r2]] w fun r w' => ∃ bo co, r = .tuple #[ptrV bo, .int .i64 0] ∧ DkR co w' bo (sF5 was at_ bb kp sz) ∧ Keep w w' :=
  (loseR_c h (iF4 hw hb hat) 0 (by rw [show (sF4 was at_ bb).size = 1 from rfl]; decide) (by decide) hS1 hS2 hhi).mono fun r w' ⟨hk, h1⟩ => by
    have hl : (sF4 was at_ bb).chs.length = 0 := rfl
    rcases h1 with ⟨h2, _⟩ | ⟨_, bo, co, h3, h4, _⟩
    · rw [hl] at h2; omega
    · rw [show (0 : Int).toNat = 0 from rfl, sF_lose] at h4
      exact ⟨bo, co, h3, h4, hk⟩
theorem minNN {P : Program} {ρ : Operand → Value} {w : World} {dst : Option Tmp} {ty : TypeId} {pos : String} {aft : Array Edge} {gd : Option (Nat × Bool)} {s x : Operand} {ts : Array TypeId} {k k' : IntKind} {a b e : Nat} (he : e = min a b) (hs : ρ s = .int k (a : Int)) (hx : ρ x = .int k' (b : Int)) : X.Does P ⟨dst, .call ⟨.builtin .min, #[s, x], ts⟩, ty, pos, aft, gd⟩ ρ w (.int k (e : Int)) w := by
  have := X.minII (P := P) (w := w) (dst := dst) (ty := ty) (pos := pos) (aft := aft) (g := gd) (ts := ts) hs hx
  rw [show (if (b : Int) < (a : Int) then (b : Int) else (a : Int)) = (e : Int) by split <;> omega] at this
  exact this
theorem sect_s (hat : ¬ (at_ < 0 ∨ (was.length : Int) < at_)) (kp sz : List Bool) {t e k : Nat} (he : e = min (lostF was at_ bb kp sz).length (64 * t + 64)) (ht : 64 * t < (lostF was at_ bb kp sz).length) (hk : k = (nowF was at_ bb).length - was.length) (h1 : (⟨(((lostF was at_ bb kp sz).take e).drop (64 * t)).toArray⟩ : ByteArray) ≠ ⟨(((nowF was at_ bb).take e).drop (64 * t)).toArray⟩)
    (h2 : (⟨(((lostF was at_ bb kp sz).take e).drop (64 * t)).toArray⟩ : ByteArray) ≠ ⟨(((was ++ List.replicate k 0).take e).drop (64 * t)).toArray⟩) : False := by
  subst hk
  rw [Nat.mul_comm 64 t] at *
  rw [List.drop_take, List.drop_take] at h1 h2
  rcases sect (b := bb) hat kp sz he ht with h | h
  · exact h1 (by rw [h])
  · exact h2 (by rw [h])
end
-- f3 "pedigree/pedigreelaw05.DiskSectors" params [22, 3, 22, 25] results [4] -> [(ResultVar.tmp 8)] nfree 0 n
set_option maxHeartbeats 4000000 in
set_option maxRecDepth 100000 in
theorem DiskSectors_c (w : World) (A : Option Addr) (n c : Nat) (xs : List UInt8) (hnc : n ≤ c) (hs : Sl KB 0 w.heap.size w A n xs) (at_ : Int) (hat : -9223372036854775808 ≤ at_ ∧ at_ ≤ 9223372036854775807) (A2 : Option Addr) (n2 c2 : Nat) (ys : List UInt8) (hnc2 : n2 ≤ c2) (hs' : Sl KB 0 w.heap.size w A2 n2 ys) (cs : Array Value) (y : Int × List Bool × List Bool) (g : KLo.R 0 w.heap.size w y cs.toList) : Ret Try.prog 3 #[.slice A n c, .int .i64 at_, .slice A2 n2 c2, .agg cs] w fun r w' => r = .bool true ∧ Keep w w' := by
  obtain ⟨Aq1, q1, r1, Aq2, q2, r2, rfl, hq1, hq2⟩ := lo_open g
  refine X.enter Try.func3 rfl Try.ntmps3 rfl ?_
  refine X.seq ?_
  refine X.region ?_
  refine X.opE X.wN rfl (X.boxE rfl rfl) ?_
  rintro _ w1 ⟨rfl, hB1, hk1, hz1⟩
  refine X.opw X.wN rfl (X.assign rfl) ?_
  refine X.opsEnd ?_
  refine X.seq ?_
  refine X.region ?_
  refine X.opE X.wN rfl (X.callE (New_ok 1000 _ (by decide)) Try.call6 rfl rfl) ?_
  rintro _ w2 ⟨bd, bf, bdd, bx, bl, c0, rfl, hDk, hDc, hk2⟩
  have hD0 : DkZ w1.heap.size c0 w2 bd (DS.mk0 1000 [] [] []) := ⟨hDk.r, hk2.size, fun q hq => Classical.byContradiction fun e => by have := hDc q e; omega⟩
  have hk2' := hk2.size
  refine X.opw X.wN rfl (X.move rfl) ?_
  refine X.opw X.wN rfl (X.extr rfl rfl) ?_
  refine X.opw X.wN rfl (X.extr rfl rfl) ?_
  refine X.opw X.wN rfl (X.assign rfl) ?_
  refine X.opw X.wN rfl (X.assign (v := .int .i64 _) rfl) ?_
  refine X.opsEnd ?_
  refine X.seq ?_
  refine X.seq ?_
  refine X.region ?_
  refine X.opw X.wN rfl (X.move (v := .int .i64 _) rfl) ?_
  refine X.opw X.wN rfl (X.neI rfl rfl) ?_
  refine X.opw X.wN rfl (X.move (v := .bool false) rfl) ?_
  refine X.opw (X.wG rfl rfl rfl) rfl (X.move rfl) ?_
  refine X.opw (X.wG rfl rfl rfl) rfl (X.eqPtrN (A := some _) Try.underlying26 rfl rfl) ?_
  refine X.opw X.wN rfl (X.pickF (v := .bool false) rfl rfl) ?_
  refine X.opsEnd ?_
  refine X.condF rfl ?_
  refine X.skip ?_
  refine X.seq ?_
  -- JOIN live: 0=was, 1=at, 2=b, 7=loss, 9=d
  refine X.joinL (σ := Nat) (fun s => [(0, .slice A s c), (1, .int .i64 at_), (2, .slice A2 n2 c2), (7, ptrV w.heap.size), (9, ptrV bd)]) (fun s => s ≤ 400 ∧ s ≤ c ∧ ∃ l, Sl KB 0 w.heap.size w2 A s l) (fun hjoin => ?_) ?_
  · refine X.seq ?_
    refine X.region ?_
    refine X.opw X.wN rfl (X.move (v := .slice _ _ _) rfl) ?_
    refine X.opw X.wN rfl (X.lenSl Try.underlying22 rfl) ?_
    refine X.opP X.wN rfl rfl (X.gtr rfl rfl) (fun h36 => ?_) (fun h36 => ?_)
    · refine X.opsEnd ?_
      refine X.condT rfl ?_
      refine X.region ?_
      refine X.opw X.wN rfl (X.move (v := .slice _ _ _) rfl) ?_
      refine X.opw X.wN rfl (X.cutHr Try.underlying22 Try.sizeOf5 rfl rfl (by omega)) ?_
      refine X.opw X.wN rfl (X.assign (v := .slice _ _ _) rfl) ?_
      refine X.opsEnd ?_
      refine hjoin 400 _ ⟨rfl, rfl, rfl, rfl, rfl, trivial⟩ ⟨by omega, by omega, _, ((hs.take 400 (by omega)).keep (hk1.trans hk2))⟩
    · refine X.opsEnd ?_
      refine X.condF rfl ?_
      refine X.skip ?_
      refine hjoin n _ ⟨rfl, rfl, rfl, rfl, rfl, trivial⟩ ⟨by omega, hnc, _, (hs.keep (hk1.trans hk2))⟩
  rintro m0 b0 ⟨hm0, hmc0, wasx, hs0⟩
  refine X.seq ?_
  -- JOIN live: 0=was, 1=at, 2=b, 7=loss, 9=d
  refine X.joinL (σ := Nat) (fun s => [(0, .slice A m0 c), (1, .int .i64 at_), (2, .slice A2 s c2), (7, ptrV w.heap.size), (9, ptrV bd)]) (fun s => s ≤ 400 ∧ s ≤ c2 ∧ ∃ l, Sl KB 0 w.heap.size w2 A2 s l) (fun hjoin => ?_) ?_
  · refine X.seq ?_
    refine X.region ?_
    refine X.opw X.wN rfl (X.move (v := .slice _ _ _) rfl) ?_
    refine X.opw X.wN rfl (X.lenSl Try.underlying22 rfl) ?_
    refine X.opP X.wN rfl rfl (X.gtr rfl rfl) (fun h41 => ?_) (fun h41 => ?_)
    · refine X.opsEnd ?_
      refine X.condT rfl ?_
      refine X.region ?_
      refine X.opw X.wN rfl (X.move (v := .slice _ _ _) rfl) ?_
      refine X.opw X.wN rfl (X.cutHr Try.underlying22 Try.sizeOf5 rfl rfl (by omega)) ?_
      refine X.opw X.wN rfl (X.assign (v := .slice _ _ _) rfl) ?_
      refine X.opsEnd ?_
      refine hjoin 400 _ ⟨rfl, rfl, rfl, rfl, rfl, trivial⟩ ⟨by omega, by omega, _, ((hs'.take 400 (by omega)).keep (hk1.trans hk2))⟩
    · refine X.opsEnd ?_
      refine X.condF rfl ?_
      refine X.skip ?_
      refine hjoin n2 _ ⟨rfl, rfl, rfl, rfl, rfl, trivial⟩ ⟨by omega, hnc2, _, (hs'.keep (hk1.trans hk2))⟩
  rintro m2 b2 ⟨hm2, hmc2, bbx, hs2⟩
  refine X.seq ?_
  refine X.seq ?_
  refine X.region ?_
  refine X.opw X.wN rfl (X.move rfl) ?_
  refine X.opE X.wN rfl (X.callE (createF_c hD0) Try.call7 rfl rfl) ?_
  rintro _ w3 ⟨rfl, c1, hD1, hx3⟩
  have hx3' := hx3.size
  refine X.opw X.wN rfl (X.neI rfl rfl) ?_
  refine X.opw X.wN rfl (X.move (v := .bool false) rfl) ?_
  refine X.opw (X.wG rfl rfl rfl) rfl (X.move rfl) ?_
  refine X.opw (X.wG rfl rfl rfl) rfl (X.move (v := .slice _ _ _) rfl) ?_
  refine X.opE (X.wG rfl rfl rfl) rfl (X.callE (writeF_c hD1 ((hs0.ext hx3 (by intros; (try simp only []); omega)).wide (Nat.le_refl _) (by omega)) (by omega)) Try.call8 rfl rfl) ?_
  rintro _ w4 ⟨rfl, c2, hD2, hx4⟩
  have hx4' := hx4.size
  refine X.opw (X.wG rfl rfl rfl) rfl (X.neI rfl rfl) ?_
  refine X.opw X.wN rfl (X.pickF (v := .bool false) rfl rfl) ?_
  refine X.opw X.wN rfl (X.move (v := .bool false) rfl) ?_
  refine X.opw (X.wG rfl rfl rfl) rfl (X.move rfl) ?_
  refine X.opE (X.wG rfl rfl rfl) rfl (X.callE (syncF_c hD2 (by rw [hs0.len]; omega)) Try.call9 rfl rfl) ?_
  rintro _ w5 ⟨rfl, c3, hD3, hx5⟩
  have hx5' := hx5.size
  refine X.opw (X.wG rfl rfl rfl) rfl (X.neI rfl rfl) ?_
  refine X.opw X.wN rfl (X.pickF (v := .bool false) rfl rfl) ?_
  refine X.opw X.wN rfl (X.move (v := .bool false) rfl) ?_
  refine X.opw (X.wG rfl rfl rfl) rfl (X.move rfl) ?_
  refine X.opE (X.wG rfl rfl rfl) rfl (X.callE (syncDirF_c hD3 (by rw [hs0.len]; omega)) Try.call10 rfl rfl) ?_
  rintro _ w6 ⟨rfl, c4, hD4, hx6⟩
  have hx6' := hx6.size
  refine X.opw (X.wG rfl rfl rfl) rfl (X.neI rfl rfl) ?_
  refine X.opw X.wN rfl (X.pickF (v := .bool false) rfl rfl) ?_
  refine X.opsEnd ?_
  refine X.condF rfl ?_
  refine X.skip ?_
  refine X.seq ?_
  refine X.seq ?_
  refine X.region ?_
  refine X.opw X.wN rfl (X.move rfl) ?_
  refine X.opw X.wN rfl (X.move (v := .int .i64 _) rfl) ?_
  refine X.opw X.wN rfl (X.move (v := .slice _ _ _) rfl) ?_
  refine X.opE X.wN rfl (X.callE (write2F_c hD4 (by rw [hs0.len]; omega) (((((hs2.ext hx3 (by intros; (try simp only []); omega)).ext hx4 (by intros; (try simp only []); omega)).ext hx5 (by intros; (try simp only []); omega)).ext hx6 (by intros; (try simp only []); omega)).wide (Nat.le_refl _) (by omega)) (by omega) at_ hat) Try.call8 rfl rfl) ?_
  rintro _ w7 ⟨e, rfl, he1, he2, hx7⟩
  have hx7' := hx7.size
  refine X.opP X.wN rfl rfl (X.neI rfl rfl) (fun h67 => ?_) (fun h67 => ?_)
  · have hbad := he1 h67
    have hwl := hs0.len
    refine X.opsEnd ?_
    refine X.condT rfl ?_
    refine X.seq ?_
    refine X.region ?_
    refine X.opw X.wN rfl (X.move (v := .int .i64 _) rfl) ?_
    refine X.opP X.wN rfl rfl (X.lss rfl rfl) (fun h69 => ?_) (fun h69 => ?_)
    · refine X.opw X.wN rfl (X.move (v := .bool true) rfl) ?_
      refine X.opS rfl rfl rfl rfl rfl ?_
      refine X.opS rfl rfl rfl rfl rfl ?_
      refine X.opS rfl rfl rfl rfl rfl ?_
      refine X.opS rfl rfl rfl rfl rfl ?_
      refine X.opw X.wN rfl (X.pickT (v := .bool true) rfl rfl) ?_
      refine X.opw X.wN rfl (X.move (v := .bool true) rfl) ?_
      refine X.opE (X.wG rfl rfl rfl) rfl (X.callE (alive_c _) Try.call11 rfl rfl) ?_
      rintro _ w8 ⟨rfl, hk8⟩
      have hk8' := hk8.size
      refine X.opw X.wN rfl (X.pickT (v := .bool _) rfl rfl) ?_
      refine X.opw X.wN rfl (X.assign (v := .bool _) rfl) ?_
      refine X.opsEnd ?_
      refine X.ret1 (v := (.bool _)) Try.func3 Try.results3 rfl ?_
      exact ⟨rfl, (((((((hk1.trans hk2).step hx3 (by intros; (try simp only [] at *); omega)).step hx4 (by intros; (try simp only [] at *); omega)).step hx5 (by intros; (try simp only [] at *); omega)).step hx6 (by intros; (try simp only [] at *); omega)).step hx7 (by intros; (try simp only [] at *); omega)).trans hk8)⟩
    · refine X.opw X.wN rfl (X.move (v := .bool false) rfl) ?_
      refine X.opw (X.wG rfl rfl rfl) rfl (X.move (v := .int .i64 _) rfl) ?_
      refine X.opw (X.wG rfl rfl rfl) rfl (X.move (v := .slice _ _ _) rfl) ?_
      refine X.opw (X.wG rfl rfl rfl) rfl (X.lenSl Try.underlying22 rfl) ?_
      refine X.opP (X.wG rfl rfl rfl) rfl rfl (X.gtr rfl rfl) (fun h74 => ?_) (fun h74 => ?_)
      · refine X.opw X.wN rfl (X.pickF (v := .bool true) rfl rfl) ?_
        refine X.opw X.wN rfl (X.move (v := .bool true) rfl) ?_
        refine X.opE (X.wG rfl rfl rfl) rfl (X.callE (alive_c _) Try.call11 rfl rfl) ?_
        rintro _ w9 ⟨rfl, hk9⟩
        have hk9' := hk9.size
        refine X.opw X.wN rfl (X.pickT (v := .bool _) rfl rfl) ?_
        refine X.opw X.wN rfl (X.assign (v := .bool _) rfl) ?_
        refine X.opsEnd ?_
        refine X.ret1 (v := (.bool _)) Try.func3 Try.results3 rfl ?_
        exact ⟨rfl, (((((((hk1.trans hk2).step hx3 (by intros; (try simp only [] at *); omega)).step hx4 (by intros; (try simp only [] at *); omega)).step hx5 (by intros; (try simp only [] at *); omega)).step hx6 (by intros; (try simp only [] at *); omega)).step hx7 (by intros; (try simp only [] at *); omega)).trans hk9)⟩
      · exact absurd hbad (by omega)
  · have hwl := hs0.len
    obtain ⟨hat4, c5, hD5⟩ := he2 (by omega)
    have hw4 : wasx.length ≤ 400 := by rw [hs0.len]; omega
    have hb4 : bbx.length ≤ 400 := by rw [hs2.len]; omega
    obtain ⟨hz1, hz2, hz3⟩ := lostF_size (b := bbx) hat4 y.2.1 y.2.2
    have hnl := nowF_len hat4 bbx
    refine X.opsEnd ?_
    refine X.condF rfl ?_
    refine X.skip ?_
    refine X.seq ?_
    refine X.region ?_
    refine X.opw X.wN rfl (X.move rfl) ?_
    refine X.opE X.wN rfl (X.callE (sizeG_c (l := nowF wasx at_ bbx) (f := wasx) hD5.1 (iF4 hw4 hb4 hat4).ok rfl rfl) Try.call12 rfl rfl) ?_
    rintro _ w10 ⟨rfl, hk10⟩
    have hk10' := hk10.size
    refine X.opw X.wN rfl (X.move rfl) ?_
    refine X.opw X.wN rfl (X.extr rfl rfl) ?_
    refine X.opw X.wN rfl (X.extr rfl rfl) ?_
    refine X.opw X.wN rfl (X.assign (v := .int .i64 _) rfl) ?_
    refine X.opw X.wN rfl (X.assign (v := .int .i64 _) rfl) ?_
    refine X.opsEnd ?_
    refine X.seq ?_
    refine X.region ?_
    refine X.opw X.wN rfl (X.move rfl) ?_
    refine X.opw X.wN rfl (X.move (v := .int .i64 _) rfl) ?_
    refine X.opE X.wN rfl (X.callE (readG_c (l := nowF wasx at_ bbx) (f := wasx) (hD5.1.keep hk10) (iF4 hw4 hb4 hat4).ok rfl rfl) Try.call13 rfl rfl) ?_
    rintro _ w11 ⟨An, cn, rfl, hcn, hsn, hk11⟩
    have hk11' := hk11.size
    refine X.opw X.wN rfl (X.move rfl) ?_
    refine X.opw X.wN rfl (X.extr rfl rfl) ?_
    refine X.opw X.wN rfl (X.extr rfl rfl) ?_
    refine X.opw X.wN rfl (X.assign (v := .slice _ _ _) rfl) ?_
    refine X.opw X.wN rfl (X.assign (v := .int .i64 _) rfl) ?_
    refine X.opsEnd ?_
    refine X.seq ?_
    refine X.region ?_
    refine X.opw X.wN rfl (X.fldB (j := 0) Try.underlying25 rfl rfl Try.sizeOf3 rfl) ?_
    refine X.opE X.wN rfl (X.storeE Try.sizeOf3 (((((((hB1.keep hk2).ext hx3 (by intros; (try simp only []); omega)).ext hx4 (by intros; (try simp only []); omega)).ext hx5 (by intros; (try simp only []); omega)).ext hx6 (by intros; (try simp only []); omega)).ext hx7 (by intros; (try simp only []); omega)).keep (hk10.trans hk11)) rfl rfl rfl rfl) ?_
    rintro _ w12 ⟨hB12, hx12, hz12⟩
    refine X.opsEnd ?_
    refine X.seq ?_
    refine X.region ?_
    refine X.opw X.wN rfl (X.move rfl) ?_
    refine X.opw X.wN rfl (X.loadNB Try.isAgg25 Try.sizeOf25 hB12 rfl rfl rfl) ?_
    refine X.opE X.wN rfl (X.callE (loseF_c (lo := 0) (hi := w.heap.size) (((hD5.1.keep hk10).keep hk11).ext hx12 (by intro q g1 g2; have g2 : q = _ := g2; subst g2; exact g1 (hD5.2.2 _ (by omega)))) hw4 hb4 hat4 (hq1.keep (((((((((hk1.trans hk2).step hx3 (by intros; (try simp only [] at *); omega)).step hx4 (by intros; (try simp only [] at *); omega)).step hx5 (by intros; (try simp only [] at *); omega)).step hx6 (by intros; (try simp only [] at *); omega)).step hx7 (by intros; (try simp only [] at *); omega)).trans hk10).trans hk11).step hx12 (by intros; (try simp only [] at *); omega))) (hq2.keep (((((((((hk1.trans hk2).step hx3 (by intros; (try simp only [] at *); omega)).step hx4 (by intros; (try simp only [] at *); omega)).step hx5 (by intros; (try simp only [] at *); omega)).step hx6 (by intros; (try simp only [] at *); omega)).step hx7 (by intros; (try simp only [] at *); omega)).trans hk10).trans hk11).step hx12 (by intros; (try simp only [] at *); omega))) (by omega)) Try.call14 rfl rfl) ?_
    rintro _ w13 ⟨bo, co, rfl, hD6, hk13⟩
    have hk13' := hk13.size
    refine X.opw X.wN rfl (X.move rfl) ?_
    refine X.opw X.wN rfl (X.extr rfl rfl) ?_
    refine X.opw X.wN rfl (X.extr rfl rfl) ?_
    refine X.opw X.wN rfl (X.assign rfl) ?_
    refine X.opw X.wN rfl (X.assign (v := .int .i64 _) rfl) ?_
    refine X.opsEnd ?_
    refine X.seq ?_
    refine X.seq ?_
    refine X.region ?_
    refine X.opw X.wN rfl (X.move (v := .int .i64 _) rfl) ?_
    refine X.opw X.wN rfl (X.neI rfl rfl) ?_
    refine X.opw X.wN rfl (X.move (v := .bool false) rfl) ?_
    refine X.opw (X.wG rfl rfl rfl) rfl (X.move rfl) ?_
    refine X.opw (X.wG rfl rfl rfl) rfl (X.eqPtrN (A := some _) Try.underlying26 rfl rfl) ?_
    refine X.opw X.wN rfl (X.pickF (v := .bool false) rfl rfl) ?_
    refine X.opsEnd ?_
    refine X.condF rfl ?_
    refine X.skip ?_
    refine X.seq ?_
    refine X.region ?_
    refine X.opw X.wN rfl (X.move rfl) ?_
    refine X.opE X.wN rfl (X.callE (sizeG_c (l := lostF wasx at_ bbx y.2.1 y.2.2) (f := lostF wasx at_ bbx y.2.1 y.2.2) hD6 (iF5 hw4 hb4 hat4 _ _).ok rfl rfl) Try.call12 rfl rfl) ?_
    rintro _ w14 ⟨rfl, hk14⟩
    have hk14' := hk14.size
    refine X.opw X.wN rfl (X.move rfl) ?_
    refine X.opw X.wN rfl (X.extr rfl rfl) ?_
    refine X.opw X.wN rfl (X.extr rfl rfl) ?_
    refine X.opw X.wN rfl (X.assign (v := .int .i64 _) rfl) ?_
    refine X.opw X.wN rfl (X.assign (v := .int .i64 _) rfl) ?_
    refine X.opsEnd ?_
    refine X.seq ?_
    refine X.region ?_
    refine X.opw X.wN rfl (X.move rfl) ?_
    refine X.opw X.wN rfl (X.move (v := .int .i64 _) rfl) ?_
    refine X.opE X.wN rfl (X.callE (readG_c (l := lostF wasx at_ bbx y.2.1 y.2.2) (f := lostF wasx at_ bbx y.2.1 y.2.2) (hD6.keep hk14) (iF5 hw4 hb4 hat4 _ _).ok rfl rfl) Try.call13 rfl rfl) ?_
    rintro _ w15 ⟨Ag, cg, rfl, hcg, hsg, hk15⟩
    have hk15' := hk15.size
    refine X.opw X.wN rfl (X.move rfl) ?_
    refine X.opw X.wN rfl (X.extr rfl rfl) ?_
    refine X.opw X.wN rfl (X.extr rfl rfl) ?_
    refine X.opw X.wN rfl (X.assign (v := .slice _ _ _) rfl) ?_
    refine X.opw X.wN rfl (X.assign (v := .int .i64 _) rfl) ?_
    refine X.opsEnd ?_
    refine X.seq ?_
    -- JOIN live: 0=was, 11=size, 13=now, 17=n, 19=got
    refine X.joinL (σ := Unit) (fun s => [(0, .slice A m0 c), (11, .int .i64 ((nowF wasx at_ bbx).length : Int)), (13, .slice An (nowF wasx at_ bbx).length cn), (17, .int .i64 ((lostF wasx at_ bbx y.2.1 y.2.2).length : Int)), (19, .slice Ag (lostF wasx at_ bbx y.2.1 y.2.2).length cg)]) (fun s => True) (fun hjoin => ?_) ?_
    · refine X.seq ?_
      refine X.region ?_
      refine X.opw X.wN rfl (X.move (v := .int .i64 _) rfl) ?_
      refine X.opw X.wN rfl (X.neI rfl rfl) ?_
      refine X.opw X.wN rfl (X.move (v := .bool false) rfl) ?_
      refine X.opw (X.wG rfl rfl rfl) rfl (X.move (v := .int .i64 _) rfl) ?_
      refine X.opw (X.wG rfl rfl rfl) rfl (X.neI rfl rfl) ?_
      refine X.opw X.wN rfl (X.pickF (v := .bool false) rfl rfl) ?_
      refine X.opw X.wN rfl (X.move (v := .bool false) rfl) ?_
      refine X.opw (X.wG rfl rfl rfl) rfl (X.move (v := .int .i64 _) rfl) ?_
      refine X.opw (X.wG rfl rfl rfl) rfl (X.move (v := .int .i64 _) rfl) ?_
      refine X.opP (X.wG rfl rfl rfl) rfl rfl (X.neI rfl rfl) (fun h123 => ?_) (fun h123 => ?_)
      · refine X.opw (X.wG rfl rfl rfl) rfl (X.move (v := .bool true) rfl) ?_
        refine X.opw (X.wG rfl rfl rfl) rfl (X.move (v := .int .i64 _) rfl) ?_
        refine X.opw (X.wG rfl rfl rfl) rfl (X.move (v := .slice _ _ _) rfl) ?_
        refine X.opw (X.wG rfl rfl rfl) rfl (X.lenSl Try.underlying22 rfl) ?_
        refine X.opP (X.wG rfl rfl rfl) rfl rfl (X.neI rfl rfl) (fun h128 => ?_) (fun h128 => ?_)
        · exact absurd h128 (by omega)
        · refine X.opw (X.wG rfl rfl rfl) rfl (X.pickT (v := .bool false) rfl rfl) ?_
          refine X.opw X.wN rfl (X.pickF (v := .bool false) rfl rfl) ?_
          refine X.opw X.wN rfl (X.move (v := .bool false) rfl) ?_
          refine X.opw (X.wG rfl rfl rfl) rfl (X.move (v := .int .i64 _) rfl) ?_
          refine X.opw (X.wG rfl rfl rfl) rfl (X.move (v := .slice _ _ _) rfl) ?_
          refine X.opw (X.wG rfl rfl rfl) rfl (X.lenSl Try.underlying22 rfl) ?_
          refine X.opP (X.wG rfl rfl rfl) rfl rfl (X.lss rfl rfl) (fun h135 => ?_) (fun h135 => ?_)
          · exact absurd h135 (by omega)
          · refine X.opw X.wN rfl (X.pickF (v := .bool false) rfl rfl) ?_
            refine X.opsEnd ?_
            refine X.condF rfl ?_
            refine X.skip ?_
            refine hjoin () _ ⟨rfl, rfl, rfl, rfl, rfl, trivial⟩ trivial
      · refine X.opw (X.wG rfl rfl rfl) rfl (X.move (v := .bool false) rfl) ?_
        refine X.opS rfl rfl rfl rfl rfl ?_
        refine X.opS rfl rfl rfl rfl rfl ?_
        refine X.opS rfl rfl rfl rfl rfl ?_
        refine X.opS rfl rfl rfl rfl rfl ?_
        refine X.opw (X.wG rfl rfl rfl) rfl (X.pickF (v := .bool false) rfl rfl) ?_
        refine X.opw X.wN rfl (X.pickF (v := .bool false) rfl rfl) ?_
        refine X.opw X.wN rfl (X.move (v := .bool false) rfl) ?_
        refine X.opw (X.wG rfl rfl rfl) rfl (X.move (v := .int .i64 _) rfl) ?_
        refine X.opw (X.wG rfl rfl rfl) rfl (X.move (v := .slice _ _ _) rfl) ?_
        refine X.opw (X.wG rfl rfl rfl) rfl (X.lenSl Try.underlying22 rfl) ?_
        refine X.opP (X.wG rfl rfl rfl) rfl rfl (X.lss rfl rfl) (fun h135 => ?_) (fun h135 => ?_)
        · exact absurd h135 (by omega)
        · refine X.opw X.wN rfl (X.pickF (v := .bool false) rfl rfl) ?_
          refine X.opsEnd ?_
          refine X.condF rfl ?_
          refine X.skip ?_
          refine hjoin () _ ⟨rfl, rfl, rfl, rfl, rfl, trivial⟩ trivial
    rintro _ b136 _
    refine X.seq ?_
    refine X.region ?_
    refine X.opE X.wN rfl (X.lit0E (K := KB) (S := fun k => w15.heap.size ≤ k) Try.underlying22 Try.sizeOf5 (by intros; (try simp only [] at *); omega)) ?_
    rintro v16 w16 ⟨hM16, hk16, hz16⟩
    refine X.opw X.wN rfl (X.move (v := .slice _ _ _) rfl) ?_
    refine X.opE X.wN rfl (X.appE (K := KB) (S := fun k => w15.heap.size ≤ k) KB_flat Try.underlying22 E8d rfl rfl hM16 ((((((((hs0.ext hx3 (by intros; (try simp only []); omega)).ext hx4 (by intros; (try simp only []); omega)).ext hx5 (by intros; (try simp only []); omega)).ext hx6 (by intros; (try simp only []); omega)).ext hx7 (by intros; (try simp only []); omega)).keep (hk10.trans hk11)).ext hx12 (by intros; (try simp only []); omega)).keep (((hk13.trans hk14).trans hk15).trans hk16)) (by (try simp only [List.length_append, List.length_cons, List.length_nil, List.length_take, List.length_drop, List.length_map, List.length_range]); omega) (by intros; (try simp only [] at *); omega)) ?_
    rintro v17 w17 ⟨hM17, hx17⟩
    have hx17' := hx17.size
    refine X.opw X.wN rfl (X.move (v := .int .i64 _) rfl) ?_
    refine X.opw X.wN rfl (X.move (v := .slice _ _ _) rfl) ?_
    refine X.opw X.wN rfl (X.lenSl Try.underlying22 rfl) ?_
    refine X.opw X.wN rfl (X.sub rfl rfl (X.w_i64 (by omega))) ?_
    refine X.opE X.wN rfl (X.appMkB (S := fun k => w15.heap.size ≤ k) Try.underlying22 Try.underlying3 E8e rfl rfl (by omega) (Mine.mono (T := fun k => w15.heap.size ≤ k) hM17 (fun k h1 h2 => by (try simp only [] at *); omega)) (by (try simp only [List.length_append, List.length_cons, List.length_nil, List.length_take, List.length_drop, List.length_map, List.length_range]); omega) (by intros; (try simp only [] at *); omega)) ?_
    rintro v18 w18 ⟨hM18, hx18⟩
    have hx18' := hx18.size
    refine X.opw X.wN rfl (X.assign rfl) ?_
    refine X.opsEnd ?_
    refine X.seq ?_
    refine X.seq ?_
    refine X.region ?_
    refine X.opw X.wN rfl (X.assign rfl) ?_
    refine X.opsEnd ?_
    refine X.block ?_
    -- LOOP live: 13=now, 17=n, 19=got, 21=old, 22=s*
    have hNow := (((hsn.ext hx12 (by intros; (try simp only []); omega)).keep ((((hk13.trans hk14).trans hk15).trans hk16).step hx17 (by intros; (try simp only [] at *); omega))).ext hx18 (by intros; (try simp only []); omega))
    have hGot := ((hsg.keep (hk16.step hx17 (by intros; (try simp only [] at *); omega))).ext hx18 (by intros; (try simp only []); omega))
    have hOld0 := hM18
    obtain ⟨ol, hol⟩ : ∃ ol, ol = wasx ++ List.replicate ((((nowF wasx at_ bbx).length : Int) - (m0 : Int)).toNat) 0 := ⟨_, rfl⟩
    rw [List.nil_append, ← hol] at hOld0
    have holn : ol.length = (nowF wasx at_ bbx).length := by rw [hol, List.length_append, List.length_replicate]; omega
    obtain ⟨Ao, co9, rfl, hco, hOld⟩ := (hOld0.flat KB_flat (lo' := 0) (hi' := w18.heap.size)).sl (fun k hk _ => ⟨Nat.zero_le _, hk⟩)
    have hkL := (((((((((((((((hk1.trans hk2).step hx3 (by intros; (try simp only [] at *); omega)).step hx4 (by intros; (try simp only [] at *); omega)).step hx5 (by intros; (try simp only [] at *); omega)).step hx6 (by intros; (try simp only [] at *); omega)).step hx7 (by intros; (try simp only [] at *); omega)).trans hk10).trans hk11).step hx12 (by intros; (try simp only [] at *); omega)).trans hk13).trans hk14).trans hk15).trans hk16).step hx17 (by intros; (try simp only [] at *); omega)).step hx18 (by intros; (try simp only [] at *); omega))
    refine X.loopL (σ := Nat) (fun s => [(13, .slice An (nowF wasx at_ bbx).length cn), (17, .int .i64 ((lostF wasx at_ bbx y.2.1 y.2.2).length : Int)), (19, .slice Ag (lostF wasx at_ bbx y.2.1 y.2.2).length cg), (21, .slice Ao ol.length co9), (22, .int .i64 ((64 * s : Nat) : Int))]) (fun s w' => Keep w18 w') (fun s => (lostF wasx at_ bbx y.2.1 y.2.2).length - 64 * s) 0 ⟨rfl, rfl, rfl, rfl, rfl, trivial⟩ (Keep.refl _) ?_
    rintro t bt wi hkt hback
    have hkt' := hkt.size
    refine X.seq ?_
    refine X.seq ?_
    refine X.region ?_
    refine X.opw X.wN rfl (X.move (v := .int .i64 _) rfl) ?_
    refine X.opw X.wN rfl (X.move (v := .int .i64 _) rfl) ?_
    refine X.opP X.wN rfl rfl (X.lss rfl rfl) (fun h147 => ?_) (fun h147 => ?_)
    · refine X.opsEnd ?_
      refine X.condT rfl ?_
      refine X.skip ?_
      refine X.seq ?_
      refine X.block ?_
      refine X.seq ?_
      refine X.region ?_
      refine X.opw X.wN rfl (X.move (v := .int .i64 _) rfl) ?_
      refine X.opw X.wN rfl (X.move (v := .int .i64 _) rfl) ?_
      refine X.opw X.wN rfl (X.add rfl rfl (X.w_i64 (by omega))) ?_
      obtain ⟨e9, he9⟩ : ∃ e9, e9 = min (lostF wasx at_ bbx y.2.1 y.2.2).length (64 * t + 64) := ⟨_, rfl⟩
      refine X.opw X.wN rfl (minNN (a := (lostF wasx at_ bbx y.2.1 y.2.2).length) (b := 64 * t + 64) he9 rfl rfl) ?_
      refine X.opw X.wN rfl (X.assign (v := .int .i64 _) rfl) ?_
      refine X.opsEnd ?_
      refine X.seq ?_
      refine X.regionD (fun _ => False) 24 (by kernel_rfl) (by kernel_rfl) (fun w19 hk19 hz19 => ?_)
      refine X.dTake 0 rfl (by kernel_rfl) (by kernel_rfl) (by kernel_rfl) (X.dwN rfl) (fun w' hk' => X.move (v := .slice _ _ _) rfl) ?_
      refine X.dTake 1 rfl (by kernel_rfl) (by kernel_rfl) (by kernel_rfl) (X.dwN rfl) (fun w' hk' => X.move (v := .int .i64 _) rfl) ?_
      refine X.dTake 2 rfl (by kernel_rfl) (by kernel_rfl) (by kernel_rfl) (X.dwN rfl) (fun w' hk' => X.move (v := .int .i64 _) rfl) ?_
      refine X.dTake 3 rfl (by kernel_rfl) (by kernel_rfl) (by kernel_rfl) (X.dwN rfl) (fun w' hk' => X.cutLH Try.underlying22 Try.sizeOf5 rfl rfl rfl (by omega)) ?_
      refine X.dTake 4 rfl (by kernel_rfl) (by kernel_rfl) (by kernel_rfl) (X.dwN rfl) (fun w' hk' => X.str Try.underlying22 Try.underlying5 Try.underlying9 rfl KB_is rfl (((hGot.take e9 (by omega)).drop (64 * t) cg (by omega) (by omega)).keep ((hkt.trans hk19).trans hk'))) ?_
      refine X.dTake 5 rfl (by kernel_rfl) (by kernel_rfl) (by kernel_rfl) (X.dwN rfl) (fun w' hk' => X.move (v := .slice _ _ _) rfl) ?_
      refine X.dTake 6 rfl (by kernel_rfl) (by kernel_rfl) (by kernel_rfl) (X.dwN rfl) (fun w' hk' => X.move (v := .int .i64 _) rfl) ?_
      refine X.dTake 7 rfl (by kernel_rfl) (by kernel_rfl) (by kernel_rfl) (X.dwN rfl) (fun w' hk' => X.move (v := .int .i64 _) rfl) ?_
      refine X.dTake 8 rfl (by kernel_rfl) (by kernel_rfl) (by kernel_rfl) (X.dwN rfl) (fun w' hk' => X.cutLH Try.underlying22 Try.sizeOf5 rfl rfl rfl (by omega)) ?_
      refine X.dTake 9 rfl (by kernel_rfl) (by kernel_rfl) (by kernel_rfl) (X.dwN rfl) (fun w' hk' => X.str Try.underlying22 Try.underlying5 Try.underlying9 rfl KB_is rfl (((hNow.take e9 (by omega)).drop (64 * t) cn (by omega) (by omega)).keep ((hkt.trans hk19).trans hk'))) ?_
      refine X.dTake 10 rfl (by kernel_rfl) (by kernel_rfl) (by kernel_rfl) (X.dwN rfl) (fun w' hk' => X.neD rfl rfl) ?_
      refine X.dTake 11 rfl (by kernel_rfl) (by kernel_rfl) (by kernel_rfl) (X.dwN rfl) (fun w' hk' => X.move (v := .bool _) rfl) ?_
      refine X.dFork 165 rfl (fun h165 => ?_) (fun h165 => ?_)
      · refine X.dTake 12 rfl (by kernel_rfl) (by kernel_rfl) (by kernel_rfl) (X.dwG rfl rfl rfl) (fun w' hk' => X.move (v := .slice _ _ _) rfl) ?_
        refine X.dTake 13 rfl (by kernel_rfl) (by kernel_rfl) (by kernel_rfl) (X.dwG rfl rfl rfl) (fun w' hk' => X.move (v := .int .i64 _) rfl) ?_
        refine X.dTake 14 rfl (by kernel_rfl) (by kernel_rfl) (by kernel_rfl) (X.dwG rfl rfl rfl) (fun w' hk' => X.move (v := .int .i64 _) rfl) ?_
        refine X.dTake 15 rfl (by kernel_rfl) (by kernel_rfl) (by kernel_rfl) (X.dwG rfl rfl rfl) (fun w' hk' => X.cutLH Try.underlying22 Try.sizeOf5 rfl rfl rfl (by omega)) ?_
        refine X.dTake 16 rfl (by kernel_rfl) (by kernel_rfl) (by kernel_rfl) (X.dwG rfl rfl rfl) (fun w' hk' => X.str Try.underlying22 Try.underlying5 Try.underlying9 rfl KB_is rfl (((hGot.take e9 (by omega)).drop (64 * t) cg (by omega) (by omega)).keep ((hkt.trans hk19).trans hk'))) ?_
        refine X.dTake 17 rfl (by kernel_rfl) (by kernel_rfl) (by kernel_rfl) (X.dwG rfl rfl rfl) (fun w' hk' => X.move (v := .slice _ _ _) rfl) ?_
        refine X.dTake 18 rfl (by kernel_rfl) (by kernel_rfl) (by kernel_rfl) (X.dwG rfl rfl rfl) (fun w' hk' => X.move (v := .int .i64 _) rfl) ?_
        refine X.dTake 19 rfl (by kernel_rfl) (by kernel_rfl) (by kernel_rfl) (X.dwG rfl rfl rfl) (fun w' hk' => X.move (v := .int .i64 _) rfl) ?_
        refine X.dTake 20 rfl (by kernel_rfl) (by kernel_rfl) (by kernel_rfl) (X.dwG rfl rfl rfl) (fun w' hk' => X.cutLH Try.underlying22 Try.sizeOf5 rfl rfl rfl (by omega)) ?_
        refine X.dTake 21 rfl (by kernel_rfl) (by kernel_rfl) (by kernel_rfl) (X.dwG rfl rfl rfl) (fun w' hk' => X.str Try.underlying22 Try.underlying5 Try.underlying9 rfl KB_is rfl (((hOld.take e9 (by omega)).drop (64 * t) co9 (by omega) (by omega)).keep ((hkt.trans hk19).trans hk'))) ?_
        refine X.dTake 22 rfl (by kernel_rfl) (by kernel_rfl) (by kernel_rfl) (X.dwG rfl rfl rfl) (fun w' hk' => X.neD rfl rfl) ?_
        refine X.dTake 23 rfl (by kernel_rfl) (by kernel_rfl) (by kernel_rfl) (X.dwN rfl) (fun w' hk' => X.pickT (v := .bool _) rfl rfl) ?_
        refine X.dEnd (by kernel_rfl) ?_
        refine X.condB rfl (fun hc => ?_) (fun hc => ?_)
        · exact (sect_s hat4 y.2.1 y.2.2 he9 (by omega) (show (((nowF wasx at_ bbx).length : Int) - (m0 : Int)).toNat = _ by omega) (of_decide_eq_true h165) (by have := of_decide_eq_true hc; rw [hol] at this; exact this)).elim
        · refine X.skip ?_
          refine X.inBlock ?_
          refine X.region ?_
          refine X.opw X.wN rfl (X.move (v := .int .i64 _) rfl) ?_
          refine X.opw X.wN rfl (X.add rfl rfl (X.w_i64 (by omega))) ?_
          refine X.opw X.wN rfl (X.assign (v := .int .i64 _) rfl) ?_
          refine X.opsEnd ?_
          refine hback (t + 1) _ _ ⟨rfl, rfl, rfl, rfl, rfl, trivial⟩ (hkt.trans hk19) (by omega)
      · refine X.dTakeS 12 rfl (by kernel_rfl) (by kernel_rfl) (by kernel_rfl) rfl rfl rfl rfl ?_
        refine X.dTakeS 13 rfl (by kernel_rfl) (by kernel_rfl) (by kernel_rfl) rfl rfl rfl rfl ?_
        refine X.dTakeS 14 rfl (by kernel_rfl) (by kernel_rfl) (by kernel_rfl) rfl rfl rfl rfl ?_
        refine X.dTakeS 15 rfl (by kernel_rfl) (by kernel_rfl) (by kernel_rfl) rfl rfl rfl rfl ?_
        refine X.dTakeS 16 rfl (by kernel_rfl) (by kernel_rfl) (by kernel_rfl) rfl rfl rfl rfl ?_
        refine X.dTakeS 17 rfl (by kernel_rfl) (by kernel_rfl) (by kernel_rfl) rfl rfl rfl rfl ?_
        refine X.dTakeS 18 rfl (by kernel_rfl) (by kernel_rfl) (by kernel_rfl) rfl rfl rfl rfl ?_
        refine X.dSkip (i := 19) (by kernel_rfl) rfl rfl rfl rfl rfl ?_
        refine X.dSkip (i := 20) (by kernel_rfl) rfl rfl rfl rfl rfl ?_
        refine X.dSkip (i := 21) (by kernel_rfl) rfl rfl rfl rfl rfl ?_
        refine X.dSkip (i := 22) (by kernel_rfl) rfl rfl rfl rfl rfl ?_
        refine X.dTake 23 rfl (by kernel_rfl) (by kernel_rfl) (by kernel_rfl) (X.dwN rfl) (fun w' hk' => X.pickF (v := .bool false) rfl rfl) ?_
        refine X.dEnd (by kernel_rfl) ?_
        refine X.condF rfl ?_
        refine X.skip ?_
        refine X.inBlock ?_
        refine X.region ?_
        refine X.opw X.wN rfl (X.move (v := .int .i64 _) rfl) ?_
        refine X.opw X.wN rfl (X.add rfl rfl (X.w_i64 (by omega))) ?_
        refine X.opw X.wN rfl (X.assign (v := .int .i64 _) rfl) ?_
        refine X.opsEnd ?_
        refine hback (t + 1) _ _ ⟨rfl, rfl, rfl, rfl, rfl, trivial⟩ (hkt.trans hk19) (by omega)
    · refine X.opsEnd ?_
      refine X.condF rfl ?_
      refine X.exit rfl ?_
      refine X.seq ?_
      refine X.region ?_
      refine X.opE X.wN rfl (X.callE (alive_c _) Try.call11 rfl rfl) ?_
      rintro _ w20 ⟨rfl, hk20⟩
      have hk20' := hk20.size
      refine X.opw X.wN rfl (X.assign (v := .bool _) rfl) ?_
      refine X.opsEnd ?_
      refine X.ret1 (v := (.bool _)) Try.func3 Try.results3 rfl ?_
      exact ⟨rfl, hkL.trans (hkt.trans hk20)⟩
end Go.Proofs.Ytcdebnppbnmmgaa

namespace Go.Proofs.Ytcdebnppbnmmgaa
open Go Go.Proofs.Ytcdebnppbnmmgaa.X
set_option linter.unusedVariables false
set_option linter.unusedSimpArgs false
theorem op_at {w : World} {lo hi : Nat} {A : Option Addr} {n j : Nat} {ops : List (Int × ByteArray × ByteArray × Int × List UInt8 × Int × List Bool × List Bool)} (hS : Sl KOp lo hi w A n ops) (hj : j < n) : ∃ y1 nm to y4 Ab nb cb y6 A2 n2 c2 A3 n3 c3 xs, nb ≤ cb ∧ n2 ≤ c2 ∧ n3 ≤ c3 ∧ (-9223372036854775808 ≤ y4 ∧ y4 ≤ 9223372036854775807) ∧ Sl KB lo hi w Ab nb xs ∧
    ∀ i u, ([.int .i64 y1, .string nm, .string to, .int .i64 y4, .slice Ab nb cb, .int .i64 y6, .slice A2 n2 c2, .slice A3 n3 c3] : List Value)[i]? = some u → w.cell? (((A.getD default).add (j * 8)).add i) = some u := by
  obtain ⟨y, hy⟩ : ∃ y, ops[j]? = some y := ⟨ops[j]'(by rw [hS.len]; exact hj), List.getElem?_eq_getElem _⟩
  obtain ⟨ad, cs, e, hr, hq⟩ := hS.get j y hy
  subst e
  obtain ⟨a1, r1, e, ⟨e1, _⟩, a2, r2, rfl, ⟨e2, _⟩, a3, r3, rfl, ⟨e3, _⟩, a4, r4, rfl, ⟨e4, h4⟩, a5, r5, rfl, ⟨A, n, c, e5, hc, hs⟩, a6, r6, rfl, ⟨e6, _⟩, a7, a8, rfl, ⟨A2, n2, c2, e7, hc2, _⟩, A3, n3, c3, e8, hc3, _⟩ := hr
  subst e1 e2 e3 e4 e5 e6 e7 e8 e
  exact ⟨_, _, _, _, _, _, _, _, _, _, _, _, _, _, _, hc, hc2, hc3, h4, hs, fun i u hu => by rw [add_add]; exact hq i u hu⟩
section
variable {g : Nat} {col : Nat → Nat} {w : World} {b m : Nat} {s : DS} {bb : List UInt8}
theorem createK_c (h : DkR col w b s) (hk : Kept bb m s) (hm : m ≤ 50000) {nm : ByteArray} (hn : nm ≠ nmK) (hl : nm.size ≤ 65) : Ret Try.prog 7 #[ptrV b, .string nm] w fun r w' => ∃ e s' col', r = .int .i64 e ∧ DkR col' w' b s' ∧ Kept bb (m + 2) s' ∧ Stp col w col' w' :=
  (createR_c h hk.1.ok nm (by omega) (by have := hk.2.sz; omega)).mono fun r w' ⟨h1, c', h2, h3⟩ => ⟨_, _, c', h1, h2, hk.create hn, h3⟩
theorem writeK_c {lo hi n c : Nat} {A : Option Addr} {xs : List UInt8} (h : DkR col w b s) (hk : Kept bb m s) {nm : ByteArray} (hn : nm ≠ nmK) (a : Int) (ha : -9223372036854775808 ≤ a ∧ a ≤ 9223372036854775807) (hs : Sl KB lo hi w A n xs) (hz : ∀ q, lo ≤ q → q < hi → col q = 0 ∧ q < w.heap.size) (hn4 : n ≤ 400) : Ret Try.prog 8 #[ptrV b, .string nm, .int .i64 a, .slice A n c] w fun r w' => ∃ e s' col', r = .int .i64 e ∧ DkR col' w' b s' ∧ Kept bb (m + 2) s' ∧ Stp col w col' w' :=
  (writeR_c h hk.1.ok nm a ha hs hz (by omega)).mono fun r w' ⟨h1, c', h2, h3⟩ => ⟨_, _, c', h1, h2, hk.write hn a xs, h3⟩
theorem syncK_c (h : DkR col w b s) (hk : Kept bb m s) {nm : ByteArray} (hn : nm ≠ nmK) (hl : nm.size ≤ 65) : Ret Try.prog 9 #[ptrV b, .string nm] w fun r w' => ∃ e s' col', r = .int .i64 e ∧ DkR col' w' b s' ∧ Kept bb (m + 2) s' ∧ Stp col w col' w' :=
  (syncR_c h hk.1.ok nm (by omega)).mono fun r w' ⟨h1, c', h2, h3⟩ => ⟨_, _, c', h1, h2, hk.sync hn, h3⟩
theorem renameK_c (h : DkR col w b s) (hk : Kept bb m s) (hm : m ≤ 50000) {nm to : ByteArray} (hn : nm ≠ nmK) (ht : to ≠ nmK) (hl : to.size ≤ 65) : Ret Try.prog 17 #[ptrV b, .string nm, .string to] w fun r w' => ∃ e s' col', r = .int .i64 e ∧ DkR col' w' b s' ∧ Kept bb (m + 2) s' ∧ Stp col w col' w' :=
  (renameR_c h hk.1.ok nm to (by omega) (by have := hk.2.sz; omega)).mono fun r w' ⟨h1, c', h2, h3⟩ => ⟨_, _, c', h1, h2, hk.rename hn ht, h3⟩
theorem deleteK_c (h : DkR col w b s) (hk : Kept bb m s) (hm : m ≤ 50000) {nm : ByteArray} (hn : nm ≠ nmK) (hl : nm.size ≤ 65) : Ret Try.prog 18 #[ptrV b, .string nm] w fun r w' => ∃ e s' col', r = .int .i64 e ∧ DkR col' w' b s' ∧ Kept bb (m + 2) s' ∧ Stp col w col' w' :=
  (deleteR_c h hk.1.ok nm (by omega) (by have := hk.2.sz; omega)).mono fun r w' ⟨h1, c', h2, h3⟩ => ⟨_, _, c', h1, h2, hk.delete hn, h3⟩
theorem syncDirK_c (h : DkR col w b s) (hk : Kept bb m s) : Ret Try.prog 10 #[ptrV b] w fun r w' => ∃ e s' col', r = .int .i64 e ∧ DkR col' w' b s' ∧ Kept bb (m + 2) s' ∧ Stp col w col' w' :=
  (syncDirR_c h hk.1.ok).mono fun r w' ⟨h1, c', h2, h3⟩ => ⟨_, _, c', h1, h2, hk.syncDir, h3⟩
theorem fuseK_c (h : DkR col w b s) (hk : Kept bb m s) (i : Int) : Ret Try.prog 19 #[ptrV b, .int .i64 i] w fun r w' => ∃ e s' col', r = .int .i64 e ∧ DkR col' w' b s' ∧ Kept bb (m + 2) s' ∧ Stp col w col' w' :=
  (fuseR_c h hk.1.ok i).mono fun r w' ⟨h1, c', h2, h3⟩ => ⟨_, _, c', h1, h2, hk.fuse i, h3⟩
theorem looseK_c (h : DkR col w b s) (hk : Kept bb m s) (hm : m ≤ 50000) : Ret Try.prog 20 #[ptrV b] w fun r w' => ∃ x y, r = .tuple #[.int .i64 (s.chs.length : Int), .int .i64 x, .int .i64 y] ∧ Keep w w' :=
  (looseR_c h hk.1.ok (by have := hk.2.sz; omega)).mono fun r w' ⟨h1, h2⟩ => ⟨_, _, h1, h2⟩
theorem loseK_c {lo hi q1 r1 q2 r2 : Nat} {Aq1 Aq2 : Option Addr} {kp sz : List Bool} (h : DkR col w b s) (hk : Kept bb m s) (hm : m ≤ 50000) {dn : Int} (hd : ¬ (dn < 0 ∨ (s.chs.length : Int) < dn)) (hS1 : Sl KBo lo hi w Aq1 q1 kp) (hS2 : Sl KBo lo hi w Aq2 q2 sz) (hhi : hi ≤ w.heap.size) : Ret Try.prog 14 #[ptrV b, .agg #[.int .i64 dn, .slice Aq1 q1 r1, .slice Aq2 q2 r2]] w fun r w' => ∃ bo co t, r = .tuple #[ptrV bo, .int .i64 0] ∧ DkR co w' bo t ∧ t.Inv ∧ t.read nmK 0 (bb.length : Int) = (bb, 0) ∧ t.sizeOf nmK = ((bb.length : Int), 0) ∧ Keep w w' :=
  (loseR_c h hk.1 dn (by have := hk.2.sz; omega) (by have := hk.2.sz; simp only [DS.size] at this; omega) hS1 hS2 hhi).mono fun r w' ⟨hkk, h1⟩ => by
    rcases h1 with ⟨h2, _⟩ | ⟨_, bo, co, h3, h4, _⟩
    · exact absurd h2 hd
    · obtain ⟨j, e1, e2⟩ := hk.lose dn.toNat kp sz
      exact ⟨bo, co, _, h3, h4, hk.1.lose _ _ _, read_at e1 e2, sizeOf_at e1 e2, hkk⟩
theorem readK_c {t : DS} (h : DkR col w b t) (hi : t.Inv) (hr : t.read nmK 0 (bb.length : Int) = (bb, 0)) (hb : bb.length ≤ 400) : Ret Try.prog 13 #[ptrV b, .string nmK, .int .i64 0, .int .i64 (bb.length : Int)] w fun r w' => ∃ A c, r = .tuple #[.slice A bb.length c, .int .i64 0] ∧ bb.length ≤ c ∧ Sl KB w.heap.size w'.heap.size w' A bb.length bb ∧ Keep w w' := by
  refine (readR_c h hi.ok nmK 0 (bb.length : Int) (by omega)).mono fun r w' ⟨v, h1, h2, hk⟩ => ?_
  rw [hr] at h1 h2
  obtain ⟨A, c, rfl, hc, hs⟩ := (h2.flat KB_flat (lo' := w.heap.size) (hi' := w'.heap.size)).sl (fun k hk h => h)
  exact ⟨A, c, h1, hc, hs, hk⟩
theorem sizeK_c {t : DS} (h : DkR col w b t) (hi : t.Inv) (hr : t.sizeOf nmK = ((bb.length : Int), 0)) : Ret Try.prog 12 #[ptrV b, .string nmK] w fun r w' => r = .tuple #[.int .i64 (bb.length : Int), .int .i64 0] ∧ Keep w w' :=
  (sizeR_c h hi.ok nmK).mono fun r w' ⟨h1, h2⟩ => ⟨h1.trans (by rw [hr]), h2⟩
/-! the first four acts -/
theorem createK0_c (h : DkZ g col w b (DS.mk0 1000 [] [] [])) : Ret Try.prog 7 #[ptrV b, .string nmK] w fun r w' => r = .int .i64 0 ∧ ∃ col', DkZ g col' w' b sK1 ∧ Stp col w col' w' :=
  (createR_c h.1 (Inv_new (rm := 1000) (by decide)).ok nmK (by decide) (by decide)).mono fun r w' ⟨h1, c', h2, h3⟩ => ⟨h1.trans (by rw [sK_create]), c', ⟨by rw [sK_create] at h2; exact h2, by have := h3.2.size; have := h.2.1; omega, fun q hq => (h3.1 q (by have := h.2.1; omega)).trans (h.2.2 q hq)⟩, h3⟩
theorem writeK0_c {A : Option Addr} {n c : Nat} (h : DkZ g col w b sK1) (hs : Sl KB 0 g w A n bb) (hn : n ≤ 400) : Ret Try.prog 8 #[ptrV b, .string nmK, .int .i64 0, .slice A n c] w fun r w' => r = .int .i64 0 ∧ ∃ col', DkZ g col' w' b (sK2 bb) ∧ Stp col w col' w' :=
  (writeR_c h.1 iK1.ok nmK 0 (by decide) hs (fun q _ h2 => ⟨h.2.2 q h2, by have := h.2.1; omega⟩) (by omega)).mono fun r w' ⟨h1, c', h2, h3⟩ => by
    rw [eK2 (by rw [hs.len]; omega)] at h1 h2; exact ⟨h1, c', ⟨h2, by have := h3.2.size; have := h.2.1; omega, fun q hq => (h3.1 q (by have := h.2.1; omega)).trans (h.2.2 q hq)⟩, h3⟩
theorem syncK0_c (h : DkZ g col w b (sK2 bb)) (hn : bb.length ≤ 400) : Ret Try.prog 9 #[ptrV b, .string nmK] w fun r w' => r = .int .i64 0 ∧ ∃ col', DkZ g col' w' b (sK2' bb) ∧ Stp col w col' w' :=
  (syncR_c h.1 (iK2 hn).ok nmK (by decide)).mono fun r w' ⟨h1, c', h2, h3⟩ => by rw [eK2'] at h1 h2; exact ⟨h1, c', ⟨h2, by have := h3.2.size; have := h.2.1; omega, fun q hq => (h3.1 q (by have := h.2.1; omega)).trans (h.2.2 q hq)⟩, h3⟩
theorem syncDirK0_c (h : DkZ g col w b (sK2' bb)) (hn : bb.length ≤ 400) : Ret Try.prog 10 #[ptrV b] w fun r w' => r = .int .i64 0 ∧ ∃ col', DkZ g col' w' b (sK3 bb) ∧ Stp col w col' w' :=
  (syncDirR_c h.1 (iK2' hn).ok).mono fun r w' ⟨h1, c', h2, h3⟩ => by rw [eK3] at h1 h2; exact ⟨h1, c', ⟨h2, by have := h3.2.size; have := h.2.1; omega, fun q hq => (h3.1 q (by have := h.2.1; omega)).trans (h.2.2 q hq)⟩, h3⟩
theorem Stp.zero {col' : Nat → Nat} {w' : World} (h : Stp col w col' w') {q : Nat} (hq : q < w.heap.size) (h0 : col q = 0) : col' q = 0 := (h.1 q hq).trans h0
end
end Go.Proofs.Ytcdebnppbnmmgaa
