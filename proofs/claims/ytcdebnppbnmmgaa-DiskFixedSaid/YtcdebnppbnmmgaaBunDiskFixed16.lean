/- Texts that the proof of DiskFixed stands on, part 16. -/
import Derived.Test.YtcdebnppbnmmgaaProg
import Derived.Test.YtcdebnppbnmmgaaBunDiskFixed15

namespace Go.Proofs.Ytcdebnppbnmmgaa
open Go Go.Proofs.Ytcdebnppbnmmgaa.X
set_option linter.unusedVariables false
set_option linter.unusedSimpArgs false
theorem readKm_c {col : Nat → Nat} {w : World} {b mm : Nat} {bb : List UInt8} {t : DS} (hm : bb.length = mm) (h : DkR col w b t) (hi : t.Inv) (hr : t.read nmK 0 (bb.length : Int) = (bb, 0)) (hb : bb.length ≤ 400) : Ret Try.prog 13 #[ptrV b, .string nmK, .int .i64 0, .int .i64 (mm : Int)] w fun r w' => ∃ A c, r = .tuple #[.slice A bb.length c, .int .i64 0] ∧ bb.length ≤ c ∧ Sl KB w.heap.size w'.heap.size w' A bb.length bb ∧ Keep w w' := by
  subst hm; exact readK_c h hi hr hb
theorem Kept.more' {bb : List UInt8} {m m' : Nat} {s : DS} (h : Kept bb m s) (hm : m ≤ m') : Kept bb m' s := ⟨h.1, h.2.more hm⟩
-- f4 "pedigree/pedigreelaw05.DiskFixed" params [22, 40, 25] results [4] -> [(ResultVar.tmp 6)] nfree 0 ntmps 
set_option maxHeartbeats 4000000 in
set_option maxRecDepth 100000 in
theorem DiskFixed_c (w : World) (A : Option Addr) (n c : Nat) (xs : List UInt8) (hnc : n ≤ c) (hs : Sl KB 0 w.heap.size w A n xs) (A1 : Option Addr) (n1 c1 : Nat) (ops : List (Int × ByteArray × ByteArray × Int × List UInt8 × Int × List Bool × List Bool)) (hnc1 : n1 ≤ c1) (hs' : Sl KOp 0 w.heap.size w A1 n1 ops) (cs : Array Value) (y : Int × List Bool × List Bool) (g : KLo.R 0 w.heap.size w y cs.toList) : Ret Try.prog 4 #[.slice A n c, .slice A1 n1 c1, .agg cs] w fun r w' => r = .bool true ∧ Keep w w' := by
  obtain ⟨Aq1, q1, r1, Aq2, q2, r2, rfl, hq1, hq2⟩ := lo_open g
  refine X.enter Try.func4 rfl Try.ntmps4 rfl ?_
  refine X.seq ?_
  refine X.region ?_
  refine X.opE X.wN rfl (X.boxE rfl rfl) ?_
  rintro _ w1 ⟨rfl, hB1, hk1, hz1⟩
  refine X.opw X.wN rfl (X.assign rfl) ?_
  refine X.opsEnd ?_
  refine X.seq ?_
  refine X.region ?_
  refine X.opE X.wN rfl (X.callE (fresh_c 1000 _ (by decide)) Try.call15 rfl rfl) ?_
  rintro _ w2 ⟨bd, pb, xb, c0, rfl, hPB, hXB, hR0, hDc, hpg, hxg, hp0, hx0, hpx, hk2⟩
  have hPlt := hPB.lt
  have hD0 : DkZ w1.heap.size c0 w2 bd (DS.mk0 1000 [] [] []) := ⟨hR0, hk2.size, fun q hq => Classical.byContradiction fun e => by have := hDc q e; omega⟩
  have hk2' := hk2.size
  refine X.opw X.wN rfl (X.move rfl) ?_
  refine X.opw X.wN rfl (X.extr rfl rfl) ?_
  refine X.opw X.wN rfl (X.extr rfl rfl) ?_
  refine X.opw X.wN rfl (X.assign rfl) ?_
  refine X.opw X.wN rfl (X.assign (v := .bool _) rfl) ?_
  refine X.opsEnd ?_
  refine X.seq ?_
  refine X.seq ?_
  refine X.region ?_
  refine X.opw X.wN rfl (X.move (v := .bool _) rfl) ?_
  refine X.opw X.wN rfl (X.not_ rfl) ?_
  refine X.opw X.wN rfl (X.move (v := .bool false) rfl) ?_
  refine X.opw (X.wG rfl rfl rfl) rfl (X.move rfl) ?_
  refine X.opw (X.wG rfl rfl rfl) rfl (X.nilCk rfl) ?_
  refine X.opw (X.wG rfl rfl rfl) rfl (X.fldB (j := 1) Try.underlying46 rfl rfl Try.sizeOf44 rfl) ?_
  refine X.opw (X.wG rfl rfl rfl) rfl (X.load1B Try.isAgg44 hPB rfl rfl) ?_
  refine X.opw (X.wG rfl rfl rfl) rfl (X.eqPtrN (A := some _) Try.underlying44 rfl rfl) ?_
  refine X.opw X.wN rfl (X.pickF (v := .bool false) rfl rfl) ?_
  refine X.opsEnd ?_
  refine X.condF rfl ?_
  refine X.skip ?_
  refine X.seq ?_
  -- JOIN live: 0=b, 1=script, 5=loss, 7=p
  refine X.joinL (σ := Nat) (fun s => [(0, .slice A s c), (1, .slice A1 n1 c1), (5, ptrV w.heap.size), (7, ptrV pb)]) (fun s => s ≤ 400 ∧ s ≤ c ∧ ∃ l, Sl KB 0 w.heap.size w2 A s l) (fun hjoin => ?_) ?_
  · refine X.seq ?_
    refine X.region ?_
    refine X.opw X.wN rfl (X.move (v := .slice _ _ _) rfl) ?_
    refine X.opw X.wN rfl (X.lenSl Try.underlying22 rfl) ?_
    refine X.opP X.wN rfl rfl (X.gtr rfl rfl) (fun h36 => ?_) (fun h36 => ?_)
    · refine X.opsEnd ?_
      refine X.condT rfl ?_
      refine X.region ?_
      refine X.opw X.wN rfl (X.move (v := .slice _ _ _) rfl) ?_
      refine X.opw X.wN rfl (X.cutHr Try.underlying22 Try.sizeOf5 rfl rfl (by omega)) ?_
      refine X.opw X.wN rfl (X.assign (v := .slice _ _ _) rfl) ?_
      refine X.opsEnd ?_
      refine hjoin 400 _ ⟨rfl, rfl, rfl, rfl, trivial⟩ ⟨by omega, by omega, _, ((hs.take 400 (by omega)).keep (hk1.trans hk2))⟩
    · refine X.opsEnd ?_
      refine X.condF rfl ?_
      refine X.skip ?_
      refine hjoin n _ ⟨rfl, rfl, rfl, rfl, trivial⟩ ⟨by omega, hnc, _, (hs.keep (hk1.trans hk2))⟩
  rintro m0 b0 ⟨hm0, hmc0, bbx, hs0⟩
  have hwl := hs0.len
  refine X.seq ?_
  refine X.region ?_
  refine X.opw X.wN rfl (X.move rfl) ?_
  refine X.opw X.wN rfl (X.nilCk rfl) ?_
  refine X.opw X.wN rfl (X.fldB (j := 0) Try.underlying46 rfl rfl Try.sizeOf26 rfl) ?_
  refine X.opw X.wN rfl (X.load1B Try.isAgg26 hPB rfl rfl) ?_
  refine X.opw X.wN rfl (X.assign rfl) ?_
  refine X.opsEnd ?_
  refine X.seq ?_
  refine X.seq ?_
  refine X.region ?_
  refine X.opw X.wN rfl (X.move rfl) ?_
  refine X.opE X.wN rfl (X.callE (createK0_c hD0) Try.call7 rfl rfl) ?_
  rintro _ w3 ⟨rfl, ec1, hD1, hst1⟩
  have hx3 := hst1.2
  have hp1 : ec1 pb = 0 := hst1.zero (by omega) hp0
  have hx3' := hx3.size
  refine X.opw X.wN rfl (X.neI rfl rfl) ?_
  refine X.opw X.wN rfl (X.move (v := .bool false) rfl) ?_
  refine X.opw (X.wG rfl rfl rfl) rfl (X.move rfl) ?_
  refine X.opw (X.wG rfl rfl rfl) rfl (X.move (v := .slice _ _ _) rfl) ?_
  refine X.opE (X.wG rfl rfl rfl) rfl (X.callE (writeK0_c hD1 ((hs0.ext hx3 (by first | (intro q g1 g2 g3; first | (have g3 : q = _ := g3; omega) | exact g3 (hD0.2.2 q (by omega)) | exact g3 (hD1.2.2 q (by omega)) | exact g3 (hD2.2.2 q (by omega)) | exact g3 (hD3.2.2 q (by omega)) | exact g3 (hz q (by omega)) | (have g3 : _ ≤ q := g3; omega)) | (intro hh; first | (have hh : _ = _ := hh; omega) | exact hh hp0 | exact hh hp1 | exact hh hp2 | exact hh hp3 | exact hh (hD0.2.2 _ (by omega)) | exact hh (hD1.2.2 _ (by omega)) | exact hh (hD2.2.2 _ (by omega)) | exact hh (hD3.2.2 _ (by omega)) | exact hh hpz | exact hh (hz _ (by omega)) | (have hh : _ ≤ _ := hh; omega)))).wide (Nat.le_refl _) (by omega)) (by omega)) Try.call8 rfl rfl) ?_
  rintro _ w4 ⟨rfl, ec2, hD2, hst2⟩
  have hx4 := hst2.2
  have hp2 : ec2 pb = 0 := hst2.zero (by omega) hp1
  have hx4' := hx4.size
  refine X.opw (X.wG rfl rfl rfl) rfl (X.neI rfl rfl) ?_
  refine X.opw X.wN rfl (X.pickF (v := .bool false) rfl rfl) ?_
  refine X.opw X.wN rfl (X.move (v := .bool false) rfl) ?_
  refine X.opw (X.wG rfl rfl rfl) rfl (X.move rfl) ?_
  refine X.opE (X.wG rfl rfl rfl) rfl (X.callE (syncK0_c hD2 (by rw [hs0.len]; omega)) Try.call9 rfl rfl) ?_
  rintro _ w5 ⟨rfl, ec3, hD3, hst3⟩
  have hx5 := hst3.2
  have hp3 : ec3 pb = 0 := hst3.zero (by omega) hp2
  have hx5' := hx5.size
  refine X.opw (X.wG rfl rfl rfl) rfl (X.neI rfl rfl) ?_
  refine X.opw X.wN rfl (X.pickF (v := .bool false) rfl rfl) ?_
  refine X.opw X.wN rfl (X.move (v := .bool false) rfl) ?_
  refine X.opw (X.wG rfl rfl rfl) rfl (X.move rfl) ?_
  refine X.opE (X.wG rfl rfl rfl) rfl (X.callE (syncDirK0_c hD3 (by rw [hs0.len]; omega)) Try.call10 rfl rfl) ?_
  rintro _ w6 ⟨rfl, ec4, hD4, hst4⟩
  have hx6 := hst4.2
  have hp4 : ec4 pb = 0 := hst4.zero (by omega) hp3
  have hx6' := hx6.size
  refine X.opw (X.wG rfl rfl rfl) rfl (X.neI rfl rfl) ?_
  refine X.opw X.wN rfl (X.pickF (v := .bool false) rfl rfl) ?_
  refine X.opsEnd ?_
  refine X.condF rfl ?_
  refine X.skip ?_
  refine X.seq ?_
  refine X.seq ?_
  refine X.region ?_
  refine X.opw X.wN rfl (X.assign rfl) ?_
  refine X.opsEnd ?_
  refine X.block ?_
  -- LOOP live: 0=b, 1=script, 5=loss, 7=p, 9=d, 10=i*
  have hK3 : Kept bbx 1 (sK3 bbx) := kept3 (by omega)
  have hbL := ((((hs0.ext hx3 (by first | (intro q g1 g2 g3; first | (have g3 : q = _ := g3; omega) | exact g3 (hD0.2.2 q (by omega)) | exact g3 (hD1.2.2 q (by omega)) | exact g3 (hD2.2.2 q (by omega)) | exact g3 (hD3.2.2 q (by omega)) | exact g3 (hz q (by omega)) | (have g3 : _ ≤ q := g3; omega)) | (intro hh; first | (have hh : _ = _ := hh; omega) | exact hh hp0 | exact hh hp1 | exact hh hp2 | exact hh hp3 | exact hh (hD0.2.2 _ (by omega)) | exact hh (hD1.2.2 _ (by omega)) | exact hh (hD2.2.2 _ (by omega)) | exact hh (hD3.2.2 _ (by omega)) | exact hh hpz | exact hh (hz _ (by omega)) | (have hh : _ ≤ _ := hh; omega)))).ext hx4 (by first | (intro q g1 g2 g3; first | (have g3 : q = _ := g3; omega) | exact g3 (hD0.2.2 q (by omega)) | exact g3 (hD1.2.2 q (by omega)) | exact g3 (hD2.2.2 q (by omega)) | exact g3 (hD3.2.2 q (by omega)) | exact g3 (hz q (by omega)) | (have g3 : _ ≤ q := g3; omega)) | (intro hh; first | (have hh : _ = _ := hh; omega) | exact hh hp0 | exact hh hp1 | exact hh hp2 | exact hh hp3 | exact hh (hD0.2.2 _ (by omega)) | exact hh (hD1.2.2 _ (by omega)) | exact hh (hD2.2.2 _ (by omega)) | exact hh (hD3.2.2 _ (by omega)) | exact hh hpz | exact hh (hz _ (by omega)) | (have hh : _ ≤ _ := hh; omega)))).ext hx5 (by first | (intro q g1 g2 g3; first | (have g3 : q = _ := g3; omega) | exact g3 (hD0.2.2 q (by omega)) | exact g3 (hD1.2.2 q (by omega)) | exact g3 (hD2.2.2 q (by omega)) | exact g3 (hD3.2.2 q (by omega)) | exact g3 (hz q (by omega)) | (have g3 : _ ≤ q := g3; omega)) | (intro hh; first | (have hh : _ = _ := hh; omega) | exact hh hp0 | exact hh hp1 | exact hh hp2 | exact hh hp3 | exact hh (hD0.2.2 _ (by omega)) | exact hh (hD1.2.2 _ (by omega)) | exact hh (hD2.2.2 _ (by omega)) | exact hh (hD3.2.2 _ (by omega)) | exact hh hpz | exact hh (hz _ (by omega)) | (have hh : _ ≤ _ := hh; omega)))).ext hx6 (by first | (intro q g1 g2 g3; first | (have g3 : q = _ := g3; omega) | exact g3 (hD0.2.2 q (by omega)) | exact g3 (hD1.2.2 q (by omega)) | exact g3 (hD2.2.2 q (by omega)) | exact g3 (hD3.2.2 q (by omega)) | exact g3 (hz q (by omega)) | (have g3 : _ ≤ q := g3; omega)) | (intro hh; first | (have hh : _ = _ := hh; omega) | exact hh hp0 | exact hh hp1 | exact hh hp2 | exact hh hp3 | exact hh (hD0.2.2 _ (by omega)) | exact hh (hD1.2.2 _ (by omega)) | exact hh (hD2.2.2 _ (by omega)) | exact hh (hD3.2.2 _ (by omega)) | exact hh hpz | exact hh (hz _ (by omega)) | (have hh : _ ≤ _ := hh; omega))))
  have hscL := (((((hs'.keep (hk1.trans hk2)).ext hx3 (by first | (intro q g1 g2 g3; first | (have g3 : q = _ := g3; omega) | exact g3 (hD0.2.2 q (by omega)) | exact g3 (hD1.2.2 q (by omega)) | exact g3 (hD2.2.2 q (by omega)) | exact g3 (hD3.2.2 q (by omega)) | exact g3 (hz q (by omega)) | (have g3 : _ ≤ q := g3; omega)) | (intro hh; first | (have hh : _ = _ := hh; omega) | exact hh hp0 | exact hh hp1 | exact hh hp2 | exact hh hp3 | exact hh (hD0.2.2 _ (by omega)) | exact hh (hD1.2.2 _ (by omega)) | exact hh (hD2.2.2 _ (by omega)) | exact hh (hD3.2.2 _ (by omega)) | exact hh hpz | exact hh (hz _ (by omega)) | (have hh : _ ≤ _ := hh; omega)))).ext hx4 (by first | (intro q g1 g2 g3; first | (have g3 : q = _ := g3; omega) | exact g3 (hD0.2.2 q (by omega)) | exact g3 (hD1.2.2 q (by omega)) | exact g3 (hD2.2.2 q (by omega)) | exact g3 (hD3.2.2 q (by omega)) | exact g3 (hz q (by omega)) | (have g3 : _ ≤ q := g3; omega)) | (intro hh; first | (have hh : _ = _ := hh; omega) | exact hh hp0 | exact hh hp1 | exact hh hp2 | exact hh hp3 | exact hh (hD0.2.2 _ (by omega)) | exact hh (hD1.2.2 _ (by omega)) | exact hh (hD2.2.2 _ (by omega)) | exact hh (hD3.2.2 _ (by omega)) | exact hh hpz | exact hh (hz _ (by omega)) | (have hh : _ ≤ _ := hh; omega)))).ext hx5 (by first | (intro q g1 g2 g3; first | (have g3 : q = _ := g3; omega) | exact g3 (hD0.2.2 q (by omega)) | exact g3 (hD1.2.2 q (by omega)) | exact g3 (hD2.2.2 q (by omega)) | exact g3 (hD3.2.2 q (by omega)) | exact g3 (hz q (by omega)) | (have g3 : _ ≤ q := g3; omega)) | (intro hh; first | (have hh : _ = _ := hh; omega) | exact hh hp0 | exact hh hp1 | exact hh hp2 | exact hh hp3 | exact hh (hD0.2.2 _ (by omega)) | exact hh (hD1.2.2 _ (by omega)) | exact hh (hD2.2.2 _ (by omega)) | exact hh (hD3.2.2 _ (by omega)) | exact hh hpz | exact hh (hz _ (by omega)) | (have hh : _ ≤ _ := hh; omega)))).ext hx6 (by first | (intro q g1 g2 g3; first | (have g3 : q = _ := g3; omega) | exact g3 (hD0.2.2 q (by omega)) | exact g3 (hD1.2.2 q (by omega)) | exact g3 (hD2.2.2 q (by omega)) | exact g3 (hD3.2.2 q (by omega)) | exact g3 (hz q (by omega)) | (have g3 : _ ≤ q := g3; omega)) | (intro hh; first | (have hh : _ = _ := hh; omega) | exact hh hp0 | exact hh hp1 | exact hh hp2 | exact hh hp3 | exact hh (hD0.2.2 _ (by omega)) | exact hh (hD1.2.2 _ (by omega)) | exact hh (hD2.2.2 _ (by omega)) | exact hh (hD3.2.2 _ (by omega)) | exact hh hpz | exact hh (hz _ (by omega)) | (have hh : _ ≤ _ := hh; omega))))
  have hB5L := (((((hB1.keep hk2).ext hx3 (by first | (intro q g1 g2 g3; first | (have g3 : q = _ := g3; omega) | exact g3 (hD0.2.2 q (by omega)) | exact g3 (hD1.2.2 q (by omega)) | exact g3 (hD2.2.2 q (by omega)) | exact g3 (hD3.2.2 q (by omega)) | exact g3 (hz q (by omega)) | (have g3 : _ ≤ q := g3; omega)) | (intro hh; first | (have hh : _ = _ := hh; omega) | exact hh hp0 | exact hh hp1 | exact hh hp2 | exact hh hp3 | exact hh (hD0.2.2 _ (by omega)) | exact hh (hD1.2.2 _ (by omega)) | exact hh (hD2.2.2 _ (by omega)) | exact hh (hD3.2.2 _ (by omega)) | exact hh hpz | exact hh (hz _ (by omega)) | (have hh : _ ≤ _ := hh; omega)))).ext hx4 (by first | (intro q g1 g2 g3; first | (have g3 : q = _ := g3; omega) | exact g3 (hD0.2.2 q (by omega)) | exact g3 (hD1.2.2 q (by omega)) | exact g3 (hD2.2.2 q (by omega)) | exact g3 (hD3.2.2 q (by omega)) | exact g3 (hz q (by omega)) | (have g3 : _ ≤ q := g3; omega)) | (intro hh; first | (have hh : _ = _ := hh; omega) | exact hh hp0 | exact hh hp1 | exact hh hp2 | exact hh hp3 | exact hh (hD0.2.2 _ (by omega)) | exact hh (hD1.2.2 _ (by omega)) | exact hh (hD2.2.2 _ (by omega)) | exact hh (hD3.2.2 _ (by omega)) | exact hh hpz | exact hh (hz _ (by omega)) | (have hh : _ ≤ _ := hh; omega)))).ext hx5 (by first | (intro q g1 g2 g3; first | (have g3 : q = _ := g3; omega) | exact g3 (hD0.2.2 q (by omega)) | exact g3 (hD1.2.2 q (by omega)) | exact g3 (hD2.2.2 q (by omega)) | exact g3 (hD3.2.2 q (by omega)) | exact g3 (hz q (by omega)) | (have g3 : _ ≤ q := g3; omega)) | (intro hh; first | (have hh : _ = _ := hh; omega) | exact hh hp0 | exact hh hp1 | exact hh hp2 | exact hh hp3 | exact hh (hD0.2.2 _ (by omega)) | exact hh (hD1.2.2 _ (by omega)) | exact hh (hD2.2.2 _ (by omega)) | exact hh (hD3.2.2 _ (by omega)) | exact hh hpz | exact hh (hz _ (by omega)) | (have hh : _ ≤ _ := hh; omega)))).ext hx6 (by first | (intro q g1 g2 g3; first | (have g3 : q = _ := g3; omega) | exact g3 (hD0.2.2 q (by omega)) | exact g3 (hD1.2.2 q (by omega)) | exact g3 (hD2.2.2 q (by omega)) | exact g3 (hD3.2.2 q (by omega)) | exact g3 (hz q (by omega)) | (have g3 : _ ≤ q := g3; omega)) | (intro hh; first | (have hh : _ = _ := hh; omega) | exact hh hp0 | exact hh hp1 | exact hh hp2 | exact hh hp3 | exact hh (hD0.2.2 _ (by omega)) | exact hh (hD1.2.2 _ (by omega)) | exact hh (hD2.2.2 _ (by omega)) | exact hh (hD3.2.2 _ (by omega)) | exact hh hpz | exact hh (hz _ (by omega)) | (have hh : _ ≤ _ := hh; omega))))
  have hP7L := ((((hPB.ext hx3 (by first | (intro q g1 g2 g3; first | (have g3 : q = _ := g3; omega) | exact g3 (hD0.2.2 q (by omega)) | exact g3 (hD1.2.2 q (by omega)) | exact g3 (hD2.2.2 q (by omega)) | exact g3 (hD3.2.2 q (by omega)) | exact g3 (hz q (by omega)) | (have g3 : _ ≤ q := g3; omega)) | (intro hh; first | (have hh : _ = _ := hh; omega) | exact hh hp0 | exact hh hp1 | exact hh hp2 | exact hh hp3 | exact hh (hD0.2.2 _ (by omega)) | exact hh (hD1.2.2 _ (by omega)) | exact hh (hD2.2.2 _ (by omega)) | exact hh (hD3.2.2 _ (by omega)) | exact hh hpz | exact hh (hz _ (by omega)) | (have hh : _ ≤ _ := hh; omega)))).ext hx4 (by first | (intro q g1 g2 g3; first | (have g3 : q = _ := g3; omega) | exact g3 (hD0.2.2 q (by omega)) | exact g3 (hD1.2.2 q (by omega)) | exact g3 (hD2.2.2 q (by omega)) | exact g3 (hD3.2.2 q (by omega)) | exact g3 (hz q (by omega)) | (have g3 : _ ≤ q := g3; omega)) | (intro hh; first | (have hh : _ = _ := hh; omega) | exact hh hp0 | exact hh hp1 | exact hh hp2 | exact hh hp3 | exact hh (hD0.2.2 _ (by omega)) | exact hh (hD1.2.2 _ (by omega)) | exact hh (hD2.2.2 _ (by omega)) | exact hh (hD3.2.2 _ (by omega)) | exact hh hpz | exact hh (hz _ (by omega)) | (have hh : _ ≤ _ := hh; omega)))).ext hx5 (by first | (intro q g1 g2 g3; first | (have g3 : q = _ := g3; omega) | exact g3 (hD0.2.2 q (by omega)) | exact g3 (hD1.2.2 q (by omega)) | exact g3 (hD2.2.2 q (by omega)) | exact g3 (hD3.2.2 q (by omega)) | exact g3 (hz q (by omega)) | (have g3 : _ ≤ q := g3; omega)) | (intro hh; first | (have hh : _ = _ := hh; omega) | exact hh hp0 | exact hh hp1 | exact hh hp2 | exact hh hp3 | exact hh (hD0.2.2 _ (by omega)) | exact hh (hD1.2.2 _ (by omega)) | exact hh (hD2.2.2 _ (by omega)) | exact hh (hD3.2.2 _ (by omega)) | exact hh hpz | exact hh (hz _ (by omega)) | (have hh : _ ≤ _ := hh; omega)))).ext hx6 (by first | (intro q g1 g2 g3; first | (have g3 : q = _ := g3; omega) | exact g3 (hD0.2.2 q (by omega)) | exact g3 (hD1.2.2 q (by omega)) | exact g3 (hD2.2.2 q (by omega)) | exact g3 (hD3.2.2 q (by omega)) | exact g3 (hz q (by omega)) | (have g3 : _ ≤ q := g3; omega)) | (intro hh; first | (have hh : _ = _ := hh; omega) | exact hh hp0 | exact hh hp1 | exact hh hp2 | exact hh hp3 | exact hh (hD0.2.2 _ (by omega)) | exact hh (hD1.2.2 _ (by omega)) | exact hh (hD2.2.2 _ (by omega)) | exact hh (hD3.2.2 _ (by omega)) | exact hh hpz | exact hh (hz _ (by omega)) | (have hh : _ ≤ _ := hh; omega))))
  have hkA : Keep w w6 := (((((hk1.trans hk2).step hx3 (by intro q g1; first | (have g1 : q = _ := g1; omega) | exact Nat.le_of_not_lt fun e => g1 (hD0.2.2 q (by omega)) | exact Nat.le_of_not_lt fun e => g1 (hD1.2.2 q (by omega)) | exact Nat.le_of_not_lt fun e => g1 (hD2.2.2 q (by omega)) | exact Nat.le_of_not_lt fun e => g1 (hD3.2.2 q (by omega)))).step hx4 (by intro q g1; first | (have g1 : q = _ := g1; omega) | exact Nat.le_of_not_lt fun e => g1 (hD0.2.2 q (by omega)) | exact Nat.le_of_not_lt fun e => g1 (hD1.2.2 q (by omega)) | exact Nat.le_of_not_lt fun e => g1 (hD2.2.2 q (by omega)) | exact Nat.le_of_not_lt fun e => g1 (hD3.2.2 q (by omega)))).step hx5 (by intro q g1; first | (have g1 : q = _ := g1; omega) | exact Nat.le_of_not_lt fun e => g1 (hD0.2.2 q (by omega)) | exact Nat.le_of_not_lt fun e => g1 (hD1.2.2 q (by omega)) | exact Nat.le_of_not_lt fun e => g1 (hD2.2.2 q (by omega)) | exact Nat.le_of_not_lt fun e => g1 (hD3.2.2 q (by omega)))).step hx6 (by intro q g1; first | (have g1 : q = _ := g1; omega) | exact Nat.le_of_not_lt fun e => g1 (hD0.2.2 q (by omega)) | exact Nat.le_of_not_lt fun e => g1 (hD1.2.2 q (by omega)) | exact Nat.le_of_not_lt fun e => g1 (hD2.2.2 q (by omega)) | exact Nat.le_of_not_lt fun e => g1 (hD3.2.2 q (by omega))))
  refine X.loopL (σ := Nat) (fun s => [(0, .slice A m0 c), (1, .slice A1 n1 c1), (5, ptrV w.heap.size), (7, ptrV pb), (9, ptrV bd), (10, .int .i64 (s : Int))]) (fun s w' => s ≤ 40 ∧ ∃ st col, DkR col w' bd st ∧ Kept bbx (1 + 2 * s) st ∧ (∀ q, q < w1.heap.size → col q = 0) ∧ col pb = 0 ∧ Blk w' pb [ptrV bd, ptrV xb] 46 ∧ Ext (fun q => w1.heap.size ≤ q) w6 w') (fun s => 40 - s) 0 ⟨rfl, rfl, rfl, rfl, rfl, rfl, trivial⟩ ⟨by omega, _, ec4, hD4.1, hK3, hD4.2.2, hp4, hP7L, Ext.refl _ _⟩ ?_
  rintro i bi wi ⟨hi, st, col, hR, hK, hz, hpz, hPi, hxi⟩ hback
  have hxi' := hxi.size
  have hPlt2 := hPi.lt
  refine X.seq ?_
  refine X.seq ?_
  refine X.region ?_
  refine X.opw X.wN rfl (X.move (v := .int .i64 _) rfl) ?_
  refine X.opw X.wN rfl (X.move (v := .slice _ _ _) rfl) ?_
  refine X.opw X.wN rfl (X.lenSl Try.underlying40 rfl) ?_
  refine X.opP X.wN rfl rfl (X.lss rfl rfl) (fun h65 => ?_) (fun h65 => ?_)
  · refine X.opw X.wN rfl (X.move (v := .bool true) rfl) ?_
    refine X.opw (X.wG rfl rfl rfl) rfl (X.move (v := .int .i64 _) rfl) ?_
    refine X.opP (X.wG rfl rfl rfl) rfl rfl (X.lss rfl rfl) (fun h68 => ?_) (fun h68 => ?_)
    · refine X.opw X.wN rfl (X.pickT (v := .bool true) rfl rfl) ?_
      refine X.opsEnd ?_
      refine X.condT rfl ?_
      refine X.skip ?_
      refine X.seq ?_
      refine X.block ?_
      refine X.seq ?_
      refine X.region ?_
      refine X.opw X.wN rfl (X.move (v := .slice _ _ _) rfl) ?_
      refine X.opw X.wN rfl (X.move (v := .int .i64 _) rfl) ?_
      refine X.opw X.wN rfl (X.idxS (hscL.ext hxi (by first | (intro q g1 g2 g3; first | (have g3 : q = _ := g3; omega) | exact g3 (hD0.2.2 q (by omega)) | exact g3 (hD1.2.2 q (by omega)) | exact g3 (hD2.2.2 q (by omega)) | exact g3 (hD3.2.2 q (by omega)) | exact g3 (hz q (by omega)) | (have g3 : _ ≤ q := g3; omega)) | (intro hh; first | (have hh : _ = _ := hh; omega) | exact hh hp0 | exact hh hp1 | exact hh hp2 | exact hh hp3 | exact hh (hD0.2.2 _ (by omega)) | exact hh (hD1.2.2 _ (by omega)) | exact hh (hD2.2.2 _ (by omega)) | exact hh (hD3.2.2 _ (by omega)) | exact hh hpz | exact hh (hz _ (by omega)) | (have hh : _ ≤ _ := hh; omega)))) Try.underlying40 Try.sizeOf48 rfl rfl ⟨by omega, by omega⟩) ?_
      obtain ⟨y1, nm0, to0, y4, Ab, nb, cb, y6, Aa2, na2, ca2, Aa3, na3, ca3, xs0, hnb, hna2, hna3, hyr, hsb, hcell⟩ := op_at (j := i) (hscL.ext hxi (by first | (intro q g1 g2 g3; first | (have g3 : q = _ := g3; omega) | exact g3 (hD0.2.2 q (by omega)) | exact g3 (hD1.2.2 q (by omega)) | exact g3 (hD2.2.2 q (by omega)) | exact g3 (hD3.2.2 q (by omega)) | exact g3 (hz q (by omega)) | (have g3 : _ ≤ q := g3; omega)) | (intro hh; first | (have hh : _ = _ := hh; omega) | exact hh hp0 | exact hh hp1 | exact hh hp2 | exact hh hp3 | exact hh (hD0.2.2 _ (by omega)) | exact hh (hD1.2.2 _ (by omega)) | exact hh (hD2.2.2 _ (by omega)) | exact hh (hD3.2.2 _ (by omega)) | exact hh hpz | exact hh (hz _ (by omega)) | (have hh : _ ≤ _ := hh; omega)))) (by omega)
      refine X.opw X.wN rfl (X.loadN Try.isAgg48 Try.sizeOf48 rfl rfl hcell) ?_
      refine X.opE X.wN rfl (X.callE (cut_c (y1 := y1) (nm := nm0) (to := to0) (y4 := y4) (A := Ab) (n := nb) (c := cb) (y6 := y6) (A2 := Aa2) (n2 := na2) (c2 := ca2) (A3 := Aa3) (n3 := na3) (c3 := ca3) _ hnb hna2 hna3 hsb) Try.call16 rfl rfl) ?_
      rintro _ w7 ⟨nm, to, nb', na2', na3', rfl, hn1, hn2, hn3, hk7⟩
      obtain ⟨hn31, hn32, xsB, hsB⟩ := hn3
      have hn3 : nb' ≤ 400 ∧ nb' ≤ cb := ⟨hn31, hn32⟩
      have hk7' := hk7.size
      refine X.opE X.wN rfl (X.allocE Try.zeroValue48 rfl) ?_
      rintro _ w8 ⟨rfl, hB8, hk8, hz8⟩
      refine X.opE X.wN rfl (X.storeNE Try.sizeOf48 hB8 rfl rfl rfl rfl (fun u hu => by simp at hu; rcases hu with rfl | rfl | rfl | rfl | rfl | rfl | rfl | rfl <;> rfl)) ?_
      rintro _ w9 ⟨hB9, hx9, hz9⟩
      refine X.opsEnd ?_
      refine X.seq ?_
      refine X.seq ?_
      refine X.region ?_
      refine X.opw X.wN rfl (X.fldB (j := 1) Try.underlying48 rfl rfl Try.sizeOf9 rfl) ?_
      refine X.opw X.wN rfl (X.load1B Try.isAgg9 hB9 rfl rfl) ?_
      refine X.opP X.wN rfl rfl (X.eqD rfl rfl) (fun h79 => ?_) (fun h79 => ?_)
      · refine X.opw X.wN rfl (X.move (v := .bool true) rfl) ?_
        refine X.opS rfl rfl rfl rfl rfl ?_
        refine X.opS rfl rfl rfl rfl rfl ?_
        refine X.opS rfl rfl rfl rfl rfl ?_
        refine X.opw X.wN rfl (X.pickT (v := .bool true) rfl rfl) ?_
        refine X.opw X.wN rfl (X.move (v := .bool true) rfl) ?_
        refine X.opS rfl rfl rfl rfl rfl ?_
        refine X.opS rfl rfl rfl rfl rfl ?_
        refine X.opS rfl rfl rfl rfl rfl ?_
        refine X.opw X.wN rfl (X.pickT (v := .bool true) rfl rfl) ?_
        refine X.opsEnd ?_
        refine X.condT rfl ?_
        refine X.exit rfl ?_
        refine X.region ?_
        refine X.opw X.wN rfl (X.move (v := .int .i64 _) rfl) ?_
        refine X.opw X.wN rfl (X.add rfl rfl (X.w_i64 (by omega))) ?_
        refine X.opw X.wN rfl (X.assign (v := .int .i64 _) rfl) ?_
        refine X.opsEnd ?_
        refine hback (i + 1) _ _ ⟨rfl, rfl, rfl, rfl, rfl, rfl, trivial⟩ ⟨by omega, st, col, (((hR.keep hk7).keep hk8).ext hx9 (by intro q g1 g2; have g2 : q = _ := g2; have := hR.lt q g1; first | omega | (subst g2; exact g1 hpz) | (subst g2; exact g1 (hz _ (by omega))))), hK.more' (by omega), hz, hpz, (hPi.keep ((hk7.trans hk8).step hx9 (by intro q g1; first | (have g1 : q = _ := g1; omega) | exact Nat.le_of_not_lt fun e => g1 (hD0.2.2 q (by omega)) | exact Nat.le_of_not_lt fun e => g1 (hD1.2.2 q (by omega)) | exact Nat.le_of_not_lt fun e => g1 (hD2.2.2 q (by omega)) | exact Nat.le_of_not_lt fun e => g1 (hD3.2.2 q (by omega))))), (Ext.andThen (Ext.andThen (Ext.andThen (Ext.andThen (Ext.refl (fun q => w1.heap.size ≤ q) _) hxi (by intro q h1 h2; first | exact (h2 : False).elim | exact h2 | (have h2 : q = _ := h2; omega) | exact Nat.le_of_not_lt fun e => h2 (hz q e))) hk7 (by intro q h1 h2; first | exact (h2 : False).elim | exact h2 | (have h2 : q = _ := h2; omega) | exact Nat.le_of_not_lt fun e => h2 (hz q e))) hk8 (by intro q h1 h2; first | exact (h2 : False).elim | exact h2 | (have h2 : q = _ := h2; omega) | exact Nat.le_of_not_lt fun e => h2 (hz q e))) hx9 (by intro q h1 h2; first | exact (h2 : False).elim | exact h2 | (have h2 : q = _ := h2; omega) | exact Nat.le_of_not_lt fun e => h2 (hz q e)))⟩ (by omega)
      · refine X.opw X.wN rfl (X.move (v := .bool false) rfl) ?_
        refine X.opw (X.wG rfl rfl rfl) rfl (X.fldB (j := 2) Try.underlying48 rfl rfl Try.sizeOf9 rfl) ?_
        refine X.opw (X.wG rfl rfl rfl) rfl (X.load1B Try.isAgg9 hB9 rfl rfl) ?_
        refine X.opP (X.wG rfl rfl rfl) rfl rfl (X.eqD rfl rfl) (fun h83 => ?_) (fun h83 => ?_)
        · refine X.opw X.wN rfl (X.pickF (v := .bool true) rfl rfl) ?_
          refine X.opw X.wN rfl (X.move (v := .bool true) rfl) ?_
          refine X.opS rfl rfl rfl rfl rfl ?_
          refine X.opS rfl rfl rfl rfl rfl ?_
          refine X.opS rfl rfl rfl rfl rfl ?_
          refine X.opw X.wN rfl (X.pickT (v := .bool true) rfl rfl) ?_
          refine X.opsEnd ?_
          refine X.condT rfl ?_
          refine X.exit rfl ?_
          refine X.region ?_
          refine X.opw X.wN rfl (X.move (v := .int .i64 _) rfl) ?_
          refine X.opw X.wN rfl (X.add rfl rfl (X.w_i64 (by omega))) ?_
          refine X.opw X.wN rfl (X.assign (v := .int .i64 _) rfl) ?_
          refine X.opsEnd ?_
          refine hback (i + 1) _ _ ⟨rfl, rfl, rfl, rfl, rfl, rfl, trivial⟩ ⟨by omega, st, col, (((hR.keep hk7).keep hk8).ext hx9 (by intro q g1 g2; have g2 : q = _ := g2; have := hR.lt q g1; first | omega | (subst g2; exact g1 hpz) | (subst g2; exact g1 (hz _ (by omega))))), hK.more' (by omega), hz, hpz, (hPi.keep ((hk7.trans hk8).step hx9 (by intro q g1; first | (have g1 : q = _ := g1; omega) | exact Nat.le_of_not_lt fun e => g1 (hD0.2.2 q (by omega)) | exact Nat.le_of_not_lt fun e => g1 (hD1.2.2 q (by omega)) | exact Nat.le_of_not_lt fun e => g1 (hD2.2.2 q (by omega)) | exact Nat.le_of_not_lt fun e => g1 (hD3.2.2 q (by omega))))), (Ext.andThen (Ext.andThen (Ext.andThen (Ext.andThen (Ext.refl (fun q => w1.heap.size ≤ q) _) hxi (by intro q h1 h2; first | exact (h2 : False).elim | exact h2 | (have h2 : q = _ := h2; omega) | exact Nat.le_of_not_lt fun e => h2 (hz q e))) hk7 (by intro q h1 h2; first | exact (h2 : False).elim | exact h2 | (have h2 : q = _ := h2; omega) | exact Nat.le_of_not_lt fun e => h2 (hz q e))) hk8 (by intro q h1 h2; first | exact (h2 : False).elim | exact h2 | (have h2 : q = _ := h2; omega) | exact Nat.le_of_not_lt fun e => h2 (hz q e))) hx9 (by intro q h1 h2; first | exact (h2 : False).elim | exact h2 | (have h2 : q = _ := h2; omega) | exact Nat.le_of_not_lt fun e => h2 (hz q e)))⟩ (by omega)
        · refine X.opw X.wN rfl (X.pickF (v := .bool false) rfl rfl) ?_
          refine X.opw X.wN rfl (X.move (v := .bool false) rfl) ?_
          refine X.opw (X.wG rfl rfl rfl) rfl (X.fldB (j := 0) Try.underlying48 rfl rfl Try.sizeOf3 rfl) ?_
          refine X.opw (X.wG rfl rfl rfl) rfl (X.load1B Try.isAgg3 hB9 rfl rfl) ?_
          refine X.opP (X.wG rfl rfl rfl) rfl rfl (X.eqI rfl rfl) (fun h88 => ?_) (fun h88 => ?_)
          · refine X.opw X.wN rfl (X.pickF (v := .bool true) rfl rfl) ?_
            refine X.opsEnd ?_
            refine X.condT rfl ?_
            refine X.exit rfl ?_
            refine X.region ?_
            refine X.opw X.wN rfl (X.move (v := .int .i64 _) rfl) ?_
            refine X.opw X.wN rfl (X.add rfl rfl (X.w_i64 (by omega))) ?_
            refine X.opw X.wN rfl (X.assign (v := .int .i64 _) rfl) ?_
            refine X.opsEnd ?_
            refine hback (i + 1) _ _ ⟨rfl, rfl, rfl, rfl, rfl, rfl, trivial⟩ ⟨by omega, st, col, (((hR.keep hk7).keep hk8).ext hx9 (by intro q g1 g2; have g2 : q = _ := g2; have := hR.lt q g1; first | omega | (subst g2; exact g1 hpz) | (subst g2; exact g1 (hz _ (by omega))))), hK.more' (by omega), hz, hpz, (hPi.keep ((hk7.trans hk8).step hx9 (by intro q g1; first | (have g1 : q = _ := g1; omega) | exact Nat.le_of_not_lt fun e => g1 (hD0.2.2 q (by omega)) | exact Nat.le_of_not_lt fun e => g1 (hD1.2.2 q (by omega)) | exact Nat.le_of_not_lt fun e => g1 (hD2.2.2 q (by omega)) | exact Nat.le_of_not_lt fun e => g1 (hD3.2.2 q (by omega))))), (Ext.andThen (Ext.andThen (Ext.andThen (Ext.andThen (Ext.refl (fun q => w1.heap.size ≤ q) _) hxi (by intro q h1 h2; first | exact (h2 : False).elim | exact h2 | (have h2 : q = _ := h2; omega) | exact Nat.le_of_not_lt fun e => h2 (hz q e))) hk7 (by intro q h1 h2; first | exact (h2 : False).elim | exact h2 | (have h2 : q = _ := h2; omega) | exact Nat.le_of_not_lt fun e => h2 (hz q e))) hk8 (by intro q h1 h2; first | exact (h2 : False).elim | exact h2 | (have h2 : q = _ := h2; omega) | exact Nat.le_of_not_lt fun e => h2 (hz q e))) hx9 (by intro q h1 h2; first | exact (h2 : False).elim | exact h2 | (have h2 : q = _ := h2; omega) | exact Nat.le_of_not_lt fun e => h2 (hz q e)))⟩ (by omega)
          · refine X.opw X.wN rfl (X.pickF (v := .bool false) rfl rfl) ?_
            refine X.opsEnd ?_
            refine X.condF rfl ?_
            refine X.skip ?_
            refine X.seq ?_
            refine X.region ?_
            refine X.opw X.wN rfl (X.move rfl) ?_
            refine X.opw X.wN rfl (X.move rfl) ?_
            refine X.opw X.wN rfl (X.nilCk rfl) ?_
            refine X.opw X.wN rfl (X.fldB (j := 0) Try.underlying46 rfl rfl Try.sizeOf26 rfl) ?_
            refine X.opE X.wN rfl (X.storeE Try.sizeOf26 (hPi.keep ((hk7.trans hk8).step hx9 (by intro q g1; first | (have g1 : q = _ := g1; omega) | exact Nat.le_of_not_lt fun e => g1 (hD0.2.2 q (by omega)) | exact Nat.le_of_not_lt fun e => g1 (hD1.2.2 q (by omega)) | exact Nat.le_of_not_lt fun e => g1 (hD2.2.2 q (by omega)) | exact Nat.le_of_not_lt fun e => g1 (hD3.2.2 q (by omega))))) rfl rfl rfl rfl) ?_
            rintro _ w10 ⟨hB10, hx10, hz10⟩
            refine X.opsEnd ?_
            refine X.seq ?_
            refine X.region ?_
            refine X.opw X.wN rfl (X.fldB (j := 0) Try.underlying48 rfl rfl Try.sizeOf3 rfl) ?_
            refine X.opw X.wN rfl (X.load1B Try.isAgg3 (hB9.ext hx10 (by first | (intro q g1 g2 g3; first | (have g3 : q = _ := g3; omega) | exact g3 (hD0.2.2 q (by omega)) | exact g3 (hD1.2.2 q (by omega)) | exact g3 (hD2.2.2 q (by omega)) | exact g3 (hD3.2.2 q (by omega)) | exact g3 (hz q (by omega)) | (have g3 : _ ≤ q := g3; omega)) | (intro hh; first | (have hh : _ = _ := hh; omega) | exact hh hp0 | exact hh hp1 | exact hh hp2 | exact hh hp3 | exact hh (hD0.2.2 _ (by omega)) | exact hh (hD1.2.2 _ (by omega)) | exact hh (hD2.2.2 _ (by omega)) | exact hh (hD3.2.2 _ (by omega)) | exact hh hpz | exact hh (hz _ (by omega)) | (have hh : _ ≤ _ := hh; omega)))) rfl rfl) ?_
            refine X.opsEnd ?_
            refine X.block ?_
            refine X.seq ?_
            refine X.region ?_
            refine X.opP X.wN rfl rfl (X.eqI rfl rfl) (fun h97 => ?_) (fun h97 => ?_)
            · refine X.opw X.wN rfl (X.assign (v := .bool true) rfl) ?_
              refine X.opsEnd ?_
              refine X.condT rfl ?_
              refine X.region ?_
              refine X.opw X.wN rfl (X.move rfl) ?_
              refine X.opw X.wN rfl (X.fldB (j := 1) Try.underlying48 rfl rfl Try.sizeOf9 rfl) ?_
              refine X.opw X.wN rfl (X.load1B Try.isAgg9 (hB9.ext hx10 (by first | (intro q g1 g2 g3; first | (have g3 : q = _ := g3; omega) | exact g3 (hD0.2.2 q (by omega)) | exact g3 (hD1.2.2 q (by omega)) | exact g3 (hD2.2.2 q (by omega)) | exact g3 (hD3.2.2 q (by omega)) | exact g3 (hz q (by omega)) | (have g3 : _ ≤ q := g3; omega)) | (intro hh; first | (have hh : _ = _ := hh; omega) | exact hh hp0 | exact hh hp1 | exact hh hp2 | exact hh hp3 | exact hh (hD0.2.2 _ (by omega)) | exact hh (hD1.2.2 _ (by omega)) | exact hh (hD2.2.2 _ (by omega)) | exact hh (hD3.2.2 _ (by omega)) | exact hh hpz | exact hh (hz _ (by omega)) | (have hh : _ ≤ _ := hh; omega)))) rfl rfl) ?_
              refine X.opE X.wN rfl (X.callE (createK_c ((((hR.keep hk7).keep hk8).ext hx9 (by intro q g1 g2; have g2 : q = _ := g2; have := hR.lt q g1; first | omega | (subst g2; exact g1 hpz) | (subst g2; exact g1 (hz _ (by omega))))).ext hx10 (by intro q g1 g2; have g2 : q = _ := g2; have := hR.lt q g1; first | omega | (subst g2; exact g1 hpz) | (subst g2; exact g1 (hz _ (by omega))))) hK (by omega) h79 hn1) Try.call7 rfl rfl) ?_
              rintro _ w11 ⟨e, st', col', rfl, hR', hK', hst⟩
              have hx11 := hst.2
              have hx11' := hx11.size
              refine X.opsEnd ?_
              refine X.inBlock ?_
              refine X.inBlock ?_
              refine X.region ?_
              refine X.opw X.wN rfl (X.move (v := .int .i64 _) rfl) ?_
              refine X.opw X.wN rfl (X.add rfl rfl (X.w_i64 (by omega))) ?_
              refine X.opw X.wN rfl (X.assign (v := .int .i64 _) rfl) ?_
              refine X.opsEnd ?_
              refine hback (i + 1) _ _ ⟨rfl, rfl, rfl, rfl, rfl, rfl, trivial⟩ ⟨by omega, st', col', hR', hK'.more' (by omega), fun q hq => hst.zero (by omega) (hz q hq), hst.zero (by omega) hpz, (hB10.ext hx11 (by first | (intro q g1 g2 g3; first | (have g3 : q = _ := g3; omega) | exact g3 (hD0.2.2 q (by omega)) | exact g3 (hD1.2.2 q (by omega)) | exact g3 (hD2.2.2 q (by omega)) | exact g3 (hD3.2.2 q (by omega)) | exact g3 (hz q (by omega)) | (have g3 : _ ≤ q := g3; omega)) | (intro hh; first | (have hh : _ = _ := hh; omega) | exact hh hp0 | exact hh hp1 | exact hh hp2 | exact hh hp3 | exact hh (hD0.2.2 _ (by omega)) | exact hh (hD1.2.2 _ (by omega)) | exact hh (hD2.2.2 _ (by omega)) | exact hh (hD3.2.2 _ (by omega)) | exact hh hpz | exact hh (hz _ (by omega)) | (have hh : _ ≤ _ := hh; omega)))), (Ext.andThen (Ext.andThen (Ext.andThen (Ext.andThen (Ext.andThen (Ext.andThen (Ext.refl (fun q => w1.heap.size ≤ q) _) hxi (by intro q h1 h2; first | exact (h2 : False).elim | exact h2 | (have h2 : q = _ := h2; omega) | exact Nat.le_of_not_lt fun e => h2 (hz q e))) hk7 (by intro q h1 h2; first | exact (h2 : False).elim | exact h2 | (have h2 : q = _ := h2; omega) | exact Nat.le_of_not_lt fun e => h2 (hz q e))) hk8 (by intro q h1 h2; first | exact (h2 : False).elim | exact h2 | (have h2 : q = _ := h2; omega) | exact Nat.le_of_not_lt fun e => h2 (hz q e))) hx9 (by intro q h1 h2; first | exact (h2 : False).elim | exact h2 | (have h2 : q = _ := h2; omega) | exact Nat.le_of_not_lt fun e => h2 (hz q e))) hx10 (by intro q h1 h2; first | exact (h2 : False).elim | exact h2 | (have h2 : q = _ := h2; omega) | exact Nat.le_of_not_lt fun e => h2 (hz q e))) hx11 (by intro q h1 h2; first | exact (h2 : False).elim | exact h2 | (have h2 : q = _ := h2; omega) | exact Nat.le_of_not_lt fun e => h2 (hz q e)))⟩ (by omega)
            · refine X.opw X.wN rfl (X.assign (v := .bool false) rfl) ?_
              refine X.opsEnd ?_
              refine X.condF rfl ?_
              refine X.seq ?_
              refine X.region ?_
              refine X.opP X.wN rfl rfl (X.eqI rfl rfl) (fun h103 => ?_) (fun h103 => ?_)
              · refine X.opw X.wN rfl (X.assign (v := .bool true) rfl) ?_
                refine X.opsEnd ?_
                refine X.condT rfl ?_
                refine X.region ?_
                refine X.opw X.wN rfl (X.move rfl) ?_
                refine X.opw X.wN rfl (X.fldB (j := 1) Try.underlying48 rfl rfl Try.sizeOf9 rfl) ?_
                refine X.opw X.wN rfl (X.load1B Try.isAgg9 (hB9.ext hx10 (by first | (intro q g1 g2 g3; first | (have g3 : q = _ := g3; omega) | exact g3 (hD0.2.2 q (by omega)) | exact g3 (hD1.2.2 q (by omega)) | exact g3 (hD2.2.2 q (by omega)) | exact g3 (hD3.2.2 q (by omega)) | exact g3 (hz q (by omega)) | (have g3 : _ ≤ q := g3; omega)) | (intro hh; first | (have hh : _ = _ := hh; omega) | exact hh hp0 | exact hh hp1 | exact hh hp2 | exact hh hp3 | exact hh (hD0.2.2 _ (by omega)) | exact hh (hD1.2.2 _ (by omega)) | exact hh (hD2.2.2 _ (by omega)) | exact hh (hD3.2.2 _ (by omega)) | exact hh hpz | exact hh (hz _ (by omega)) | (have hh : _ ≤ _ := hh; omega)))) rfl rfl) ?_
                refine X.opw X.wN rfl (X.fldB (j := 3) Try.underlying48 rfl rfl Try.sizeOf3 rfl) ?_
                refine X.opw X.wN rfl (X.load1B Try.isAgg3 (hB9.ext hx10 (by first | (intro q g1 g2 g3; first | (have g3 : q = _ := g3; omega) | exact g3 (hD0.2.2 q (by omega)) | exact g3 (hD1.2.2 q (by omega)) | exact g3 (hD2.2.2 q (by omega)) | exact g3 (hD3.2.2 q (by omega)) | exact g3 (hz q (by omega)) | (have g3 : _ ≤ q := g3; omega)) | (intro hh; first | (have hh : _ = _ := hh; omega) | exact hh hp0 | exact hh hp1 | exact hh hp2 | exact hh hp3 | exact hh (hD0.2.2 _ (by omega)) | exact hh (hD1.2.2 _ (by omega)) | exact hh (hD2.2.2 _ (by omega)) | exact hh (hD3.2.2 _ (by omega)) | exact hh hpz | exact hh (hz _ (by omega)) | (have hh : _ ≤ _ := hh; omega)))) rfl rfl) ?_
                refine X.opw X.wN rfl (X.fldB (j := 4) Try.underlying48 rfl rfl Try.sizeOf22 rfl) ?_
                refine X.opw X.wN rfl (X.load1B Try.isAgg22 (hB9.ext hx10 (by first | (intro q g1 g2 g3; first | (have g3 : q = _ := g3; omega) | exact g3 (hD0.2.2 q (by omega)) | exact g3 (hD1.2.2 q (by omega)) | exact g3 (hD2.2.2 q (by omega)) | exact g3 (hD3.2.2 q (by omega)) | exact g3 (hz q (by omega)) | (have g3 : _ ≤ q := g3; omega)) | (intro hh; first | (have hh : _ = _ := hh; omega) | exact hh hp0 | exact hh hp1 | exact hh hp2 | exact hh hp3 | exact hh (hD0.2.2 _ (by omega)) | exact hh (hD1.2.2 _ (by omega)) | exact hh (hD2.2.2 _ (by omega)) | exact hh (hD3.2.2 _ (by omega)) | exact hh hpz | exact hh (hz _ (by omega)) | (have hh : _ ≤ _ := hh; omega)))) rfl rfl) ?_
                refine X.opE X.wN rfl (X.callE (writeK_c ((((hR.keep hk7).keep hk8).ext hx9 (by intro q g1 g2; have g2 : q = _ := g2; have := hR.lt q g1; first | omega | (subst g2; exact g1 hpz) | (subst g2; exact g1 (hz _ (by omega))))).ext hx10 (by intro q g1 g2; have g2 : q = _ := g2; have := hR.lt q g1; first | omega | (subst g2; exact g1 hpz) | (subst g2; exact g1 (hz _ (by omega))))) hK h79 _ hyr ((hsB.keep ((hk7.trans hk8).step hx9 (by intro q g1; first | (have g1 : q = _ := g1; omega) | exact Nat.le_of_not_lt fun e => g1 (hD0.2.2 q (by omega)) | exact Nat.le_of_not_lt fun e => g1 (hD1.2.2 q (by omega)) | exact Nat.le_of_not_lt fun e => g1 (hD2.2.2 q (by omega)) | exact Nat.le_of_not_lt fun e => g1 (hD3.2.2 q (by omega))))).ext hx10 (by first | (intro q g1 g2 g3; first | (have g3 : q = _ := g3; omega) | exact g3 (hD0.2.2 q (by omega)) | exact g3 (hD1.2.2 q (by omega)) | exact g3 (hD2.2.2 q (by omega)) | exact g3 (hD3.2.2 q (by omega)) | exact g3 (hz q (by omega)) | (have g3 : _ ≤ q := g3; omega)) | (intro hh; first | (have hh : _ = _ := hh; omega) | exact hh hp0 | exact hh hp1 | exact hh hp2 | exact hh hp3 | exact hh (hD0.2.2 _ (by omega)) | exact hh (hD1.2.2 _ (by omega)) | exact hh (hD2.2.2 _ (by omega)) | exact hh (hD3.2.2 _ (by omega)) | exact hh hpz | exact hh (hz _ (by omega)) | (have hh : _ ≤ _ := hh; omega)))) (fun q _ h2 => ⟨hz q (by omega), by omega⟩) hn3.1) Try.call8 rfl rfl) ?_
                rintro _ w12 ⟨e, st', col', rfl, hR', hK', hst⟩
                have hx12 := hst.2
                have hx12' := hx12.size
                refine X.opsEnd ?_
                refine X.inBlock ?_
                refine X.inBlock ?_
                refine X.region ?_
                refine X.opw X.wN rfl (X.move (v := .int .i64 _) rfl) ?_
                refine X.opw X.wN rfl (X.add rfl rfl (X.w_i64 (by omega))) ?_
                refine X.opw X.wN rfl (X.assign (v := .int .i64 _) rfl) ?_
                refine X.opsEnd ?_
                refine hback (i + 1) _ _ ⟨rfl, rfl, rfl, rfl, rfl, rfl, trivial⟩ ⟨by omega, st', col', hR', hK'.more' (by omega), fun q hq => hst.zero (by omega) (hz q hq), hst.zero (by omega) hpz, (hB10.ext hx12 (by first | (intro q g1 g2 g3; first | (have g3 : q = _ := g3; omega) | exact g3 (hD0.2.2 q (by omega)) | exact g3 (hD1.2.2 q (by omega)) | exact g3 (hD2.2.2 q (by omega)) | exact g3 (hD3.2.2 q (by omega)) | exact g3 (hz q (by omega)) | (have g3 : _ ≤ q := g3; omega)) | (intro hh; first | (have hh : _ = _ := hh; omega) | exact hh hp0 | exact hh hp1 | exact hh hp2 | exact hh hp3 | exact hh (hD0.2.2 _ (by omega)) | exact hh (hD1.2.2 _ (by omega)) | exact hh (hD2.2.2 _ (by omega)) | exact hh (hD3.2.2 _ (by omega)) | exact hh hpz | exact hh (hz _ (by omega)) | (have hh : _ ≤ _ := hh; omega)))), (Ext.andThen (Ext.andThen (Ext.andThen (Ext.andThen (Ext.andThen (Ext.andThen (Ext.refl (fun q => w1.heap.size ≤ q) _) hxi (by intro q h1 h2; first | exact (h2 : False).elim | exact h2 | (have h2 : q = _ := h2; omega) | exact Nat.le_of_not_lt fun e => h2 (hz q e))) hk7 (by intro q h1 h2; first | exact (h2 : False).elim | exact h2 | (have h2 : q = _ := h2; omega) | exact Nat.le_of_not_lt fun e => h2 (hz q e))) hk8 (by intro q h1 h2; first | exact (h2 : False).elim | exact h2 | (have h2 : q = _ := h2; omega) | exact Nat.le_of_not_lt fun e => h2 (hz q e))) hx9 (by intro q h1 h2; first | exact (h2 : False).elim | exact h2 | (have h2 : q = _ := h2; omega) | exact Nat.le_of_not_lt fun e => h2 (hz q e))) hx10 (by intro q h1 h2; first | exact (h2 : False).elim | exact h2 | (have h2 : q = _ := h2; omega) | exact Nat.le_of_not_lt fun e => h2 (hz q e))) hx12 (by intro q h1 h2; first | exact (h2 : False).elim | exact h2 | (have h2 : q = _ := h2; omega) | exact Nat.le_of_not_lt fun e => h2 (hz q e)))⟩ (by omega)
              · refine X.opw X.wN rfl (X.assign (v := .bool false) rfl) ?_
                refine X.opsEnd ?_
                refine X.condF rfl ?_
                refine X.seq ?_
                refine X.region ?_
                refine X.opP X.wN rfl rfl (X.eqI rfl rfl) (fun h113 => ?_) (fun h113 => ?_)
                · refine X.opw X.wN rfl (X.assign (v := .bool true) rfl) ?_
                  refine X.opsEnd ?_
                  refine X.condT rfl ?_
                  refine X.region ?_
                  refine X.opw X.wN rfl (X.move rfl) ?_
                  refine X.opw X.wN rfl (X.fldB (j := 1) Try.underlying48 rfl rfl Try.sizeOf9 rfl) ?_
                  refine X.opw X.wN rfl (X.load1B Try.isAgg9 (hB9.ext hx10 (by first | (intro q g1 g2 g3; first | (have g3 : q = _ := g3; omega) | exact g3 (hD0.2.2 q (by omega)) | exact g3 (hD1.2.2 q (by omega)) | exact g3 (hD2.2.2 q (by omega)) | exact g3 (hD3.2.2 q (by omega)) | exact g3 (hz q (by omega)) | (have g3 : _ ≤ q := g3; omega)) | (intro hh; first | (have hh : _ = _ := hh; omega) | exact hh hp0 | exact hh hp1 | exact hh hp2 | exact hh hp3 | exact hh (hD0.2.2 _ (by omega)) | exact hh (hD1.2.2 _ (by omega)) | exact hh (hD2.2.2 _ (by omega)) | exact hh (hD3.2.2 _ (by omega)) | exact hh hpz | exact hh (hz _ (by omega)) | (have hh : _ ≤ _ := hh; omega)))) rfl rfl) ?_
                  refine X.opE X.wN rfl (X.callE (syncK_c ((((hR.keep hk7).keep hk8).ext hx9 (by intro q g1 g2; have g2 : q = _ := g2; have := hR.lt q g1; first | omega | (subst g2; exact g1 hpz) | (subst g2; exact g1 (hz _ (by omega))))).ext hx10 (by intro q g1 g2; have g2 : q = _ := g2; have := hR.lt q g1; first | omega | (subst g2; exact g1 hpz) | (subst g2; exact g1 (hz _ (by omega))))) hK h79 hn1) Try.call9 rfl rfl) ?_
                  rintro _ w13 ⟨e, st', col', rfl, hR', hK', hst⟩
                  have hx13 := hst.2
                  have hx13' := hx13.size
                  refine X.opsEnd ?_
                  refine X.inBlock ?_
                  refine X.inBlock ?_
                  refine X.region ?_
                  refine X.opw X.wN rfl (X.move (v := .int .i64 _) rfl) ?_
                  refine X.opw X.wN rfl (X.add rfl rfl (X.w_i64 (by omega))) ?_
                  refine X.opw X.wN rfl (X.assign (v := .int .i64 _) rfl) ?_
                  refine X.opsEnd ?_
                  refine hback (i + 1) _ _ ⟨rfl, rfl, rfl, rfl, rfl, rfl, trivial⟩ ⟨by omega, st', col', hR', hK'.more' (by omega), fun q hq => hst.zero (by omega) (hz q hq), hst.zero (by omega) hpz, (hB10.ext hx13 (by first | (intro q g1 g2 g3; first | (have g3 : q = _ := g3; omega) | exact g3 (hD0.2.2 q (by omega)) | exact g3 (hD1.2.2 q (by omega)) | exact g3 (hD2.2.2 q (by omega)) | exact g3 (hD3.2.2 q (by omega)) | exact g3 (hz q (by omega)) | (have g3 : _ ≤ q := g3; omega)) | (intro hh; first | (have hh : _ = _ := hh; omega) | exact hh hp0 | exact hh hp1 | exact hh hp2 | exact hh hp3 | exact hh (hD0.2.2 _ (by omega)) | exact hh (hD1.2.2 _ (by omega)) | exact hh (hD2.2.2 _ (by omega)) | exact hh (hD3.2.2 _ (by omega)) | exact hh hpz | exact hh (hz _ (by omega)) | (have hh : _ ≤ _ := hh; omega)))), (Ext.andThen (Ext.andThen (Ext.andThen (Ext.andThen (Ext.andThen (Ext.andThen (Ext.refl (fun q => w1.heap.size ≤ q) _) hxi (by intro q h1 h2; first | exact (h2 : False).elim | exact h2 | (have h2 : q = _ := h2; omega) | exact Nat.le_of_not_lt fun e => h2 (hz q e))) hk7 (by intro q h1 h2; first | exact (h2 : False).elim | exact h2 | (have h2 : q = _ := h2; omega) | exact Nat.le_of_not_lt fun e => h2 (hz q e))) hk8 (by intro q h1 h2; first | exact (h2 : False).elim | exact h2 | (have h2 : q = _ := h2; omega) | exact Nat.le_of_not_lt fun e => h2 (hz q e))) hx9 (by intro q h1 h2; first | exact (h2 : False).elim | exact h2 | (have h2 : q = _ := h2; omega) | exact Nat.le_of_not_lt fun e => h2 (hz q e))) hx10 (by intro q h1 h2; first | exact (h2 : False).elim | exact h2 | (have h2 : q = _ := h2; omega) | exact Nat.le_of_not_lt fun e => h2 (hz q e))) hx13 (by intro q h1 h2; first | exact (h2 : False).elim | exact h2 | (have h2 : q = _ := h2; omega) | exact Nat.le_of_not_lt fun e => h2 (hz q e)))⟩ (by omega)
                · refine X.opw X.wN rfl (X.assign (v := .bool false) rfl) ?_
                  refine X.opsEnd ?_
                  refine X.condF rfl ?_
                  refine X.seq ?_
                  refine X.region ?_
                  refine X.opP X.wN rfl rfl (X.eqI rfl rfl) (fun h119 => ?_) (fun h119 => ?_)
                  · refine X.opw X.wN rfl (X.assign (v := .bool true) rfl) ?_
                    refine X.opsEnd ?_
                    refine X.condT rfl ?_
                    refine X.region ?_
                    refine X.opw X.wN rfl (X.move rfl) ?_
                    refine X.opw X.wN rfl (X.fldB (j := 1) Try.underlying48 rfl rfl Try.sizeOf9 rfl) ?_
                    refine X.opw X.wN rfl (X.load1B Try.isAgg9 (hB9.ext hx10 (by first | (intro q g1 g2 g3; first | (have g3 : q = _ := g3; omega) | exact g3 (hD0.2.2 q (by omega)) | exact g3 (hD1.2.2 q (by omega)) | exact g3 (hD2.2.2 q (by omega)) | exact g3 (hD3.2.2 q (by omega)) | exact g3 (hz q (by omega)) | (have g3 : _ ≤ q := g3; omega)) | (intro hh; first | (have hh : _ = _ := hh; omega) | exact hh hp0 | exact hh hp1 | exact hh hp2 | exact hh hp3 | exact hh (hD0.2.2 _ (by omega)) | exact hh (hD1.2.2 _ (by omega)) | exact hh (hD2.2.2 _ (by omega)) | exact hh (hD3.2.2 _ (by omega)) | exact hh hpz | exact hh (hz _ (by omega)) | (have hh : _ ≤ _ := hh; omega)))) rfl rfl) ?_
                    refine X.opw X.wN rfl (X.fldB (j := 2) Try.underlying48 rfl rfl Try.sizeOf9 rfl) ?_
                    refine X.opw X.wN rfl (X.load1B Try.isAgg9 (hB9.ext hx10 (by first | (intro q g1 g2 g3; first | (have g3 : q = _ := g3; omega) | exact g3 (hD0.2.2 q (by omega)) | exact g3 (hD1.2.2 q (by omega)) | exact g3 (hD2.2.2 q (by omega)) | exact g3 (hD3.2.2 q (by omega)) | exact g3 (hz q (by omega)) | (have g3 : _ ≤ q := g3; omega)) | (intro hh; first | (have hh : _ = _ := hh; omega) | exact hh hp0 | exact hh hp1 | exact hh hp2 | exact hh hp3 | exact hh (hD0.2.2 _ (by omega)) | exact hh (hD1.2.2 _ (by omega)) | exact hh (hD2.2.2 _ (by omega)) | exact hh (hD3.2.2 _ (by omega)) | exact hh hpz | exact hh (hz _ (by omega)) | (have hh : _ ≤ _ := hh; omega)))) rfl rfl) ?_
                    refine X.opE X.wN rfl (X.callE (renameK_c ((((hR.keep hk7).keep hk8).ext hx9 (by intro q g1 g2; have g2 : q = _ := g2; have := hR.lt q g1; first | omega | (subst g2; exact g1 hpz) | (subst g2; exact g1 (hz _ (by omega))))).ext hx10 (by intro q g1 g2; have g2 : q = _ := g2; have := hR.lt q g1; first | omega | (subst g2; exact g1 hpz) | (subst g2; exact g1 (hz _ (by omega))))) hK (by omega) h79 h83 hn2) Try.call17 rfl rfl) ?_
                    rintro _ w14 ⟨e, st', col', rfl, hR', hK', hst⟩
                    have hx14 := hst.2
                    have hx14' := hx14.size
                    refine X.opsEnd ?_
                    refine X.inBlock ?_
                    refine X.inBlock ?_
                    refine X.region ?_
                    refine X.opw X.wN rfl (X.move (v := .int .i64 _) rfl) ?_
                    refine X.opw X.wN rfl (X.add rfl rfl (X.w_i64 (by omega))) ?_
                    refine X.opw X.wN rfl (X.assign (v := .int .i64 _) rfl) ?_
                    refine X.opsEnd ?_
                    refine hback (i + 1) _ _ ⟨rfl, rfl, rfl, rfl, rfl, rfl, trivial⟩ ⟨by omega, st', col', hR', hK'.more' (by omega), fun q hq => hst.zero (by omega) (hz q hq), hst.zero (by omega) hpz, (hB10.ext hx14 (by first | (intro q g1 g2 g3; first | (have g3 : q = _ := g3; omega) | exact g3 (hD0.2.2 q (by omega)) | exact g3 (hD1.2.2 q (by omega)) | exact g3 (hD2.2.2 q (by omega)) | exact g3 (hD3.2.2 q (by omega)) | exact g3 (hz q (by omega)) | (have g3 : _ ≤ q := g3; omega)) | (intro hh; first | (have hh : _ = _ := hh; omega) | exact hh hp0 | exact hh hp1 | exact hh hp2 | exact hh hp3 | exact hh (hD0.2.2 _ (by omega)) | exact hh (hD1.2.2 _ (by omega)) | exact hh (hD2.2.2 _ (by omega)) | exact hh (hD3.2.2 _ (by omega)) | exact hh hpz | exact hh (hz _ (by omega)) | (have hh : _ ≤ _ := hh; omega)))), (Ext.andThen (Ext.andThen (Ext.andThen (Ext.andThen (Ext.andThen (Ext.andThen (Ext.refl (fun q => w1.heap.size ≤ q) _) hxi (by intro q h1 h2; first | exact (h2 : False).elim | exact h2 | (have h2 : q = _ := h2; omega) | exact Nat.le_of_not_lt fun e => h2 (hz q e))) hk7 (by intro q h1 h2; first | exact (h2 : False).elim | exact h2 | (have h2 : q = _ := h2; omega) | exact Nat.le_of_not_lt fun e => h2 (hz q e))) hk8 (by intro q h1 h2; first | exact (h2 : False).elim | exact h2 | (have h2 : q = _ := h2; omega) | exact Nat.le_of_not_lt fun e => h2 (hz q e))) hx9 (by intro q h1 h2; first | exact (h2 : False).elim | exact h2 | (have h2 : q = _ := h2; omega) | exact Nat.le_of_not_lt fun e => h2 (hz q e))) hx10 (by intro q h1 h2; first | exact (h2 : False).elim | exact h2 | (have h2 : q = _ := h2; omega) | exact Nat.le_of_not_lt fun e => h2 (hz q e))) hx14 (by intro q h1 h2; first | exact (h2 : False).elim | exact h2 | (have h2 : q = _ := h2; omega) | exact Nat.le_of_not_lt fun e => h2 (hz q e)))⟩ (by omega)
                  · refine X.opw X.wN rfl (X.assign (v := .bool false) rfl) ?_
                    refine X.opsEnd ?_
                    refine X.condF rfl ?_
                    refine X.seq ?_
                    refine X.region ?_
                    refine X.opP X.wN rfl rfl (X.eqI rfl rfl) (fun h127 => ?_) (fun h127 => ?_)
                    · refine X.opw X.wN rfl (X.assign (v := .bool true) rfl) ?_
                      refine X.opsEnd ?_
                      refine X.condT rfl ?_
                      refine X.region ?_
                      refine X.opw X.wN rfl (X.move rfl) ?_
                      refine X.opw X.wN rfl (X.fldB (j := 1) Try.underlying48 rfl rfl Try.sizeOf9 rfl) ?_
                      refine X.opw X.wN rfl (X.load1B Try.isAgg9 (hB9.ext hx10 (by first | (intro q g1 g2 g3; first | (have g3 : q = _ := g3; omega) | exact g3 (hD0.2.2 q (by omega)) | exact g3 (hD1.2.2 q (by omega)) | exact g3 (hD2.2.2 q (by omega)) | exact g3 (hD3.2.2 q (by omega)) | exact g3 (hz q (by omega)) | (have g3 : _ ≤ q := g3; omega)) | (intro hh; first | (have hh : _ = _ := hh; omega) | exact hh hp0 | exact hh hp1 | exact hh hp2 | exact hh hp3 | exact hh (hD0.2.2 _ (by omega)) | exact hh (hD1.2.2 _ (by omega)) | exact hh (hD2.2.2 _ (by omega)) | exact hh (hD3.2.2 _ (by omega)) | exact hh hpz | exact hh (hz _ (by omega)) | (have hh : _ ≤ _ := hh; omega)))) rfl rfl) ?_
                      refine X.opE X.wN rfl (X.callE (deleteK_c ((((hR.keep hk7).keep hk8).ext hx9 (by intro q g1 g2; have g2 : q = _ := g2; have := hR.lt q g1; first | omega | (subst g2; exact g1 hpz) | (subst g2; exact g1 (hz _ (by omega))))).ext hx10 (by intro q g1 g2; have g2 : q = _ := g2; have := hR.lt q g1; first | omega | (subst g2; exact g1 hpz) | (subst g2; exact g1 (hz _ (by omega))))) hK (by omega) h79 hn1) Try.call18 rfl rfl) ?_
                      rintro _ w15 ⟨e, st', col', rfl, hR', hK', hst⟩
                      have hx15 := hst.2
                      have hx15' := hx15.size
                      refine X.opsEnd ?_
                      refine X.inBlock ?_
                      refine X.inBlock ?_
                      refine X.region ?_
                      refine X.opw X.wN rfl (X.move (v := .int .i64 _) rfl) ?_
                      refine X.opw X.wN rfl (X.add rfl rfl (X.w_i64 (by omega))) ?_
                      refine X.opw X.wN rfl (X.assign (v := .int .i64 _) rfl) ?_
                      refine X.opsEnd ?_
                      refine hback (i + 1) _ _ ⟨rfl, rfl, rfl, rfl, rfl, rfl, trivial⟩ ⟨by omega, st', col', hR', hK'.more' (by omega), fun q hq => hst.zero (by omega) (hz q hq), hst.zero (by omega) hpz, (hB10.ext hx15 (by first | (intro q g1 g2 g3; first | (have g3 : q = _ := g3; omega) | exact g3 (hD0.2.2 q (by omega)) | exact g3 (hD1.2.2 q (by omega)) | exact g3 (hD2.2.2 q (by omega)) | exact g3 (hD3.2.2 q (by omega)) | exact g3 (hz q (by omega)) | (have g3 : _ ≤ q := g3; omega)) | (intro hh; first | (have hh : _ = _ := hh; omega) | exact hh hp0 | exact hh hp1 | exact hh hp2 | exact hh hp3 | exact hh (hD0.2.2 _ (by omega)) | exact hh (hD1.2.2 _ (by omega)) | exact hh (hD2.2.2 _ (by omega)) | exact hh (hD3.2.2 _ (by omega)) | exact hh hpz | exact hh (hz _ (by omega)) | (have hh : _ ≤ _ := hh; omega)))), (Ext.andThen (Ext.andThen (Ext.andThen (Ext.andThen (Ext.andThen (Ext.andThen (Ext.refl (fun q => w1.heap.size ≤ q) _) hxi (by intro q h1 h2; first | exact (h2 : False).elim | exact h2 | (have h2 : q = _ := h2; omega) | exact Nat.le_of_not_lt fun e => h2 (hz q e))) hk7 (by intro q h1 h2; first | exact (h2 : False).elim | exact h2 | (have h2 : q = _ := h2; omega) | exact Nat.le_of_not_lt fun e => h2 (hz q e))) hk8 (by intro q h1 h2; first | exact (h2 : False).elim | exact h2 | (have h2 : q = _ := h2; omega) | exact Nat.le_of_not_lt fun e => h2 (hz q e))) hx9 (by intro q h1 h2; first | exact (h2 : False).elim | exact h2 | (have h2 : q = _ := h2; omega) | exact Nat.le_of_not_lt fun e => h2 (hz q e))) hx10 (by intro q h1 h2; first | exact (h2 : False).elim | exact h2 | (have h2 : q = _ := h2; omega) | exact Nat.le_of_not_lt fun e => h2 (hz q e))) hx15 (by intro q h1 h2; first | exact (h2 : False).elim | exact h2 | (have h2 : q = _ := h2; omega) | exact Nat.le_of_not_lt fun e => h2 (hz q e)))⟩ (by omega)
                    · refine X.opw X.wN rfl (X.assign (v := .bool false) rfl) ?_
                      refine X.opsEnd ?_
                      refine X.condF rfl ?_
                      refine X.seq ?_
                      refine X.region ?_
                      refine X.opP X.wN rfl rfl (X.eqI rfl rfl) (fun h133 => ?_) (fun h133 => ?_)
                      · refine X.opw X.wN rfl (X.assign (v := .bool true) rfl) ?_
                        refine X.opsEnd ?_
                        refine X.condT rfl ?_
                        refine X.region ?_
                        refine X.opw X.wN rfl (X.move rfl) ?_
                        refine X.opE X.wN rfl (X.callE (syncDirK_c ((((hR.keep hk7).keep hk8).ext hx9 (by intro q g1 g2; have g2 : q = _ := g2; have := hR.lt q g1; first | omega | (subst g2; exact g1 hpz) | (subst g2; exact g1 (hz _ (by omega))))).ext hx10 (by intro q g1 g2; have g2 : q = _ := g2; have := hR.lt q g1; first | omega | (subst g2; exact g1 hpz) | (subst g2; exact g1 (hz _ (by omega))))) hK) Try.call10 rfl rfl) ?_
                        rintro _ w16 ⟨e, st', col', rfl, hR', hK', hst⟩
                        have hx16 := hst.2
                        have hx16' := hx16.size
                        refine X.opsEnd ?_
                        refine X.inBlock ?_
                        refine X.inBlock ?_
                        refine X.region ?_
                        refine X.opw X.wN rfl (X.move (v := .int .i64 _) rfl) ?_
                        refine X.opw X.wN rfl (X.add rfl rfl (X.w_i64 (by omega))) ?_
                        refine X.opw X.wN rfl (X.assign (v := .int .i64 _) rfl) ?_
                        refine X.opsEnd ?_
                        refine hback (i + 1) _ _ ⟨rfl, rfl, rfl, rfl, rfl, rfl, trivial⟩ ⟨by omega, st', col', hR', hK'.more' (by omega), fun q hq => hst.zero (by omega) (hz q hq), hst.zero (by omega) hpz, (hB10.ext hx16 (by first | (intro q g1 g2 g3; first | (have g3 : q = _ := g3; omega) | exact g3 (hD0.2.2 q (by omega)) | exact g3 (hD1.2.2 q (by omega)) | exact g3 (hD2.2.2 q (by omega)) | exact g3 (hD3.2.2 q (by omega)) | exact g3 (hz q (by omega)) | (have g3 : _ ≤ q := g3; omega)) | (intro hh; first | (have hh : _ = _ := hh; omega) | exact hh hp0 | exact hh hp1 | exact hh hp2 | exact hh hp3 | exact hh (hD0.2.2 _ (by omega)) | exact hh (hD1.2.2 _ (by omega)) | exact hh (hD2.2.2 _ (by omega)) | exact hh (hD3.2.2 _ (by omega)) | exact hh hpz | exact hh (hz _ (by omega)) | (have hh : _ ≤ _ := hh; omega)))), (Ext.andThen (Ext.andThen (Ext.andThen (Ext.andThen (Ext.andThen (Ext.andThen (Ext.refl (fun q => w1.heap.size ≤ q) _) hxi (by intro q h1 h2; first | exact (h2 : False).elim | exact h2 | (have h2 : q = _ := h2; omega) | exact Nat.le_of_not_lt fun e => h2 (hz q e))) hk7 (by intro q h1 h2; first | exact (h2 : False).elim | exact h2 | (have h2 : q = _ := h2; omega) | exact Nat.le_of_not_lt fun e => h2 (hz q e))) hk8 (by intro q h1 h2; first | exact (h2 : False).elim | exact h2 | (have h2 : q = _ := h2; omega) | exact Nat.le_of_not_lt fun e => h2 (hz q e))) hx9 (by intro q h1 h2; first | exact (h2 : False).elim | exact h2 | (have h2 : q = _ := h2; omega) | exact Nat.le_of_not_lt fun e => h2 (hz q e))) hx10 (by intro q h1 h2; first | exact (h2 : False).elim | exact h2 | (have h2 : q = _ := h2; omega) | exact Nat.le_of_not_lt fun e => h2 (hz q e))) hx16 (by intro q h1 h2; first | exact (h2 : False).elim | exact h2 | (have h2 : q = _ := h2; omega) | exact Nat.le_of_not_lt fun e => h2 (hz q e)))⟩ (by omega)
                      · refine X.opw X.wN rfl (X.assign (v := .bool false) rfl) ?_
                        refine X.opsEnd ?_
                        refine X.condF rfl ?_
                        refine X.seq ?_
                        refine X.region ?_
                        refine X.opP X.wN rfl rfl (X.eqI rfl rfl) (fun h137 => ?_) (fun h137 => ?_)
                        · refine X.opw X.wN rfl (X.assign (v := .bool true) rfl) ?_
                          refine X.opsEnd ?_
                          refine X.condT rfl ?_
                          refine X.region ?_
                          refine X.opw X.wN rfl (X.move rfl) ?_
                          refine X.opw X.wN rfl (X.fldB (j := 3) Try.underlying48 rfl rfl Try.sizeOf3 rfl) ?_
                          refine X.opw X.wN rfl (X.load1B Try.isAgg3 (hB9.ext hx10 (by first | (intro q g1 g2 g3; first | (have g3 : q = _ := g3; omega) | exact g3 (hD0.2.2 q (by omega)) | exact g3 (hD1.2.2 q (by omega)) | exact g3 (hD2.2.2 q (by omega)) | exact g3 (hD3.2.2 q (by omega)) | exact g3 (hz q (by omega)) | (have g3 : _ ≤ q := g3; omega)) | (intro hh; first | (have hh : _ = _ := hh; omega) | exact hh hp0 | exact hh hp1 | exact hh hp2 | exact hh hp3 | exact hh (hD0.2.2 _ (by omega)) | exact hh (hD1.2.2 _ (by omega)) | exact hh (hD2.2.2 _ (by omega)) | exact hh (hD3.2.2 _ (by omega)) | exact hh hpz | exact hh (hz _ (by omega)) | (have hh : _ ≤ _ := hh; omega)))) rfl rfl) ?_
                          refine X.opE X.wN rfl (X.callE (fuseK_c ((((hR.keep hk7).keep hk8).ext hx9 (by intro q g1 g2; have g2 : q = _ := g2; have := hR.lt q g1; first | omega | (subst g2; exact g1 hpz) | (subst g2; exact g1 (hz _ (by omega))))).ext hx10 (by intro q g1 g2; have g2 : q = _ := g2; have := hR.lt q g1; first | omega | (subst g2; exact g1 hpz) | (subst g2; exact g1 (hz _ (by omega))))) hK _) Try.call19 rfl rfl) ?_
                          rintro _ w17 ⟨e, st', col', rfl, hR', hK', hst⟩
                          have hx17 := hst.2
                          have hx17' := hx17.size
                          refine X.opsEnd ?_
                          refine X.inBlock ?_
                          refine X.inBlock ?_
                          refine X.region ?_
                          refine X.opw X.wN rfl (X.move (v := .int .i64 _) rfl) ?_
                          refine X.opw X.wN rfl (X.add rfl rfl (X.w_i64 (by omega))) ?_
                          refine X.opw X.wN rfl (X.assign (v := .int .i64 _) rfl) ?_
                          refine X.opsEnd ?_
                          refine hback (i + 1) _ _ ⟨rfl, rfl, rfl, rfl, rfl, rfl, trivial⟩ ⟨by omega, st', col', hR', hK'.more' (by omega), fun q hq => hst.zero (by omega) (hz q hq), hst.zero (by omega) hpz, (hB10.ext hx17 (by first | (intro q g1 g2 g3; first | (have g3 : q = _ := g3; omega) | exact g3 (hD0.2.2 q (by omega)) | exact g3 (hD1.2.2 q (by omega)) | exact g3 (hD2.2.2 q (by omega)) | exact g3 (hD3.2.2 q (by omega)) | exact g3 (hz q (by omega)) | (have g3 : _ ≤ q := g3; omega)) | (intro hh; first | (have hh : _ = _ := hh; omega) | exact hh hp0 | exact hh hp1 | exact hh hp2 | exact hh hp3 | exact hh (hD0.2.2 _ (by omega)) | exact hh (hD1.2.2 _ (by omega)) | exact hh (hD2.2.2 _ (by omega)) | exact hh (hD3.2.2 _ (by omega)) | exact hh hpz | exact hh (hz _ (by omega)) | (have hh : _ ≤ _ := hh; omega)))), (Ext.andThen (Ext.andThen (Ext.andThen (Ext.andThen (Ext.andThen (Ext.andThen (Ext.refl (fun q => w1.heap.size ≤ q) _) hxi (by intro q h1 h2; first | exact (h2 : False).elim | exact h2 | (have h2 : q = _ := h2; omega) | exact Nat.le_of_not_lt fun e => h2 (hz q e))) hk7 (by intro q h1 h2; first | exact (h2 : False).elim | exact h2 | (have h2 : q = _ := h2; omega) | exact Nat.le_of_not_lt fun e => h2 (hz q e))) hk8 (by intro q h1 h2; first | exact (h2 : False).elim | exact h2 | (have h2 : q = _ := h2; omega) | exact Nat.le_of_not_lt fun e => h2 (hz q e))) hx9 (by intro q h1 h2; first | exact (h2 : False).elim | exact h2 | (have h2 : q = _ := h2; omega) | exact Nat.le_of_not_lt fun e => h2 (hz q e))) hx10 (by intro q h1 h2; first | exact (h2 : False).elim | exact h2 | (have h2 : q = _ := h2; omega) | exact Nat.le_of_not_lt fun e => h2 (hz q e))) hx17 (by intro q h1 h2; first | exact (h2 : False).elim | exact h2 | (have h2 : q = _ := h2; omega) | exact Nat.le_of_not_lt fun e => h2 (hz q e)))⟩ (by omega)
                        · refine X.opw X.wN rfl (X.assign (v := .bool false) rfl) ?_
                          refine X.opsEnd ?_
                          refine X.condF rfl ?_
                          refine X.exit rfl ?_
                          refine X.region ?_
                          refine X.opw X.wN rfl (X.move (v := .int .i64 _) rfl) ?_
                          refine X.opw X.wN rfl (X.add rfl rfl (X.w_i64 (by omega))) ?_
                          refine X.opw X.wN rfl (X.assign (v := .int .i64 _) rfl) ?_
                          refine X.opsEnd ?_
                          refine hback (i + 1) _ _ ⟨rfl, rfl, rfl, rfl, rfl, rfl, trivial⟩ ⟨by omega, st, col, ((((hR.keep hk7).keep hk8).ext hx9 (by intro q g1 g2; have g2 : q = _ := g2; have := hR.lt q g1; first | omega | (subst g2; exact g1 hpz) | (subst g2; exact g1 (hz _ (by omega))))).ext hx10 (by intro q g1 g2; have g2 : q = _ := g2; have := hR.lt q g1; first | omega | (subst g2; exact g1 hpz) | (subst g2; exact g1 (hz _ (by omega))))), hK.more' (by omega), hz, hpz, hB10, (Ext.andThen (Ext.andThen (Ext.andThen (Ext.andThen (Ext.andThen (Ext.refl (fun q => w1.heap.size ≤ q) _) hxi (by intro q h1 h2; first | exact (h2 : False).elim | exact h2 | (have h2 : q = _ := h2; omega) | exact Nat.le_of_not_lt fun e => h2 (hz q e))) hk7 (by intro q h1 h2; first | exact (h2 : False).elim | exact h2 | (have h2 : q = _ := h2; omega) | exact Nat.le_of_not_lt fun e => h2 (hz q e))) hk8 (by intro q h1 h2; first | exact (h2 : False).elim | exact h2 | (have h2 : q = _ := h2; omega) | exact Nat.le_of_not_lt fun e => h2 (hz q e))) hx9 (by intro q h1 h2; first | exact (h2 : False).elim | exact h2 | (have h2 : q = _ := h2; omega) | exact Nat.le_of_not_lt fun e => h2 (hz q e))) hx10 (by intro q h1 h2; first | exact (h2 : False).elim | exact h2 | (have h2 : q = _ := h2; omega) | exact Nat.le_of_not_lt fun e => h2 (hz q e)))⟩ (by omega)
    · refine X.opw X.wN rfl (X.pickT (v := .bool false) rfl rfl) ?_
      refine X.opsEnd ?_
      refine X.condF rfl ?_
      refine X.exit rfl ?_
      refine X.seq ?_
      refine X.region ?_
      refine X.opw X.wN rfl (X.move rfl) ?_
      refine X.opE X.wN rfl (X.callE (looseK_c hR hK (by omega)) Try.call20 rfl rfl) ?_
      rintro _ w18 ⟨x9, y9, rfl, hk18⟩
      have hk18' := hk18.size
      refine X.opw X.wN rfl (X.move rfl) ?_
      refine X.opw X.wN rfl (X.extr rfl rfl) ?_
      refine X.opw X.wN rfl (X.extr rfl rfl) ?_
      refine X.opw X.wN rfl (X.extr rfl rfl) ?_
      refine X.opw X.wN rfl (X.assign (v := .int .i64 _) rfl) ?_
      refine X.opw X.wN rfl (X.assign (v := .int .i64 _) rfl) ?_
      refine X.opw X.wN rfl (X.assign (v := .int .i64 _) rfl) ?_
      refine X.opsEnd ?_
      refine X.seq ?_
      -- JOIN live: 0=b, 5=loss, 9=d
      have hb9 := ((hbL.ext hxi (by first | (intro q g1 g2 g3; first | (have g3 : q = _ := g3; omega) | exact g3 (hD0.2.2 q (by omega)) | exact g3 (hD1.2.2 q (by omega)) | exact g3 (hD2.2.2 q (by omega)) | exact g3 (hD3.2.2 q (by omega)) | exact g3 (hz q (by omega)) | (have g3 : _ ≤ q := g3; omega)) | (intro hh; first | (have hh : _ = _ := hh; omega) | exact hh hp0 | exact hh hp1 | exact hh hp2 | exact hh hp3 | exact hh (hD0.2.2 _ (by omega)) | exact hh (hD1.2.2 _ (by omega)) | exact hh (hD2.2.2 _ (by omega)) | exact hh (hD3.2.2 _ (by omega)) | exact hh hpz | exact hh (hz _ (by omega)) | (have hh : _ ≤ _ := hh; omega)))).keep hk18)
      have hB59 := ((hB5L.ext hxi (by first | (intro q g1 g2 g3; first | (have g3 : q = _ := g3; omega) | exact g3 (hD0.2.2 q (by omega)) | exact g3 (hD1.2.2 q (by omega)) | exact g3 (hD2.2.2 q (by omega)) | exact g3 (hD3.2.2 q (by omega)) | exact g3 (hz q (by omega)) | (have g3 : _ ≤ q := g3; omega)) | (intro hh; first | (have hh : _ = _ := hh; omega) | exact hh hp0 | exact hh hp1 | exact hh hp2 | exact hh hp3 | exact hh (hD0.2.2 _ (by omega)) | exact hh (hD1.2.2 _ (by omega)) | exact hh (hD2.2.2 _ (by omega)) | exact hh (hD3.2.2 _ (by omega)) | exact hh hpz | exact hh (hz _ (by omega)) | (have hh : _ ≤ _ := hh; omega)))).keep hk18)
      have hR9 := (hR.keep hk18)
      have hkB : Keep w w18 := ((hkA.step hxi (by intro q g1; first | (have g1 : q = _ := g1; omega) | (have g1 : _ ≤ q := g1; omega))).trans hk18)
      refine X.joinW (σ := Int) (fun s => [(0, .slice A m0 c), (5, ptrV w.heap.size), (9, ptrV bd)]) (fun s w' => ¬ (s < 0 ∨ (st.chs.length : Int) < s) ∧ Blk w' w.heap.size [.int .i64 s, .slice Aq1 q1 r1, .slice Aq2 q2 r2] 25 ∧ Ext (fun q => q = w.heap.size) w18 w') (fun hjoin => ?_) ?_
      · refine X.seq ?_
        refine X.region ?_
        refine X.opw X.wN rfl (X.fldB (j := 0) Try.underlying25 rfl rfl Try.sizeOf3 rfl) ?_
        refine X.opw X.wN rfl (X.load1B Try.isAgg3 ((hB5L.ext hxi (by first | (intro q g1 g2 g3; first | (have g3 : q = _ := g3; omega) | exact g3 (hD0.2.2 q (by omega)) | exact g3 (hD1.2.2 q (by omega)) | exact g3 (hD2.2.2 q (by omega)) | exact g3 (hD3.2.2 q (by omega)) | exact g3 (hz q (by omega)) | (have g3 : _ ≤ q := g3; omega)) | (intro hh; first | (have hh : _ = _ := hh; omega) | exact hh hp0 | exact hh hp1 | exact hh hp2 | exact hh hp3 | exact hh (hD0.2.2 _ (by omega)) | exact hh (hD1.2.2 _ (by omega)) | exact hh (hD2.2.2 _ (by omega)) | exact hh (hD3.2.2 _ (by omega)) | exact hh hpz | exact hh (hz _ (by omega)) | (have hh : _ ≤ _ := hh; omega)))).keep hk18) rfl rfl) ?_
        refine X.opP X.wN rfl rfl (X.lss rfl rfl) (fun h150 => ?_) (fun h150 => ?_)
        · refine X.opw X.wN rfl (X.move (v := .bool true) rfl) ?_
          refine X.opS rfl rfl rfl rfl rfl ?_
          refine X.opS rfl rfl rfl rfl rfl ?_
          refine X.opS rfl rfl rfl rfl rfl ?_
          refine X.opS rfl rfl rfl rfl rfl ?_
          refine X.opw X.wN rfl (X.pickT (v := .bool true) rfl rfl) ?_
          refine X.opsEnd ?_
          refine X.condT rfl ?_
          refine X.region ?_
          refine X.opw X.wN rfl (X.move (v := .int .i64 _) rfl) ?_
          refine X.opw X.wN rfl (X.fldB (j := 0) Try.underlying25 rfl rfl Try.sizeOf3 rfl) ?_
          refine X.opE X.wN rfl (X.storeE Try.sizeOf3 ((hB5L.ext hxi (by first | (intro q g1 g2 g3; first | (have g3 : q = _ := g3; omega) | exact g3 (hD0.2.2 q (by omega)) | exact g3 (hD1.2.2 q (by omega)) | exact g3 (hD2.2.2 q (by omega)) | exact g3 (hD3.2.2 q (by omega)) | exact g3 (hz q (by omega)) | (have g3 : _ ≤ q := g3; omega)) | (intro hh; first | (have hh : _ = _ := hh; omega) | exact hh hp0 | exact hh hp1 | exact hh hp2 | exact hh hp3 | exact hh (hD0.2.2 _ (by omega)) | exact hh (hD1.2.2 _ (by omega)) | exact hh (hD2.2.2 _ (by omega)) | exact hh (hD3.2.2 _ (by omega)) | exact hh hpz | exact hh (hz _ (by omega)) | (have hh : _ ≤ _ := hh; omega)))).keep hk18) rfl rfl rfl rfl) ?_
          rintro _ w19 ⟨hB19, hx19, hz19⟩
          refine X.opsEnd ?_
          refine hjoin ((st.chs.length : Nat) : Int) _ _ ⟨rfl, rfl, rfl, trivial⟩ ⟨by omega, hB19, hx19⟩
        · refine X.opw X.wN rfl (X.move (v := .bool false) rfl) ?_
          refine X.opw (X.wG rfl rfl rfl) rfl (X.fldB (j := 0) Try.underlying25 rfl rfl Try.sizeOf3 rfl) ?_
          refine X.opw (X.wG rfl rfl rfl) rfl (X.load1B Try.isAgg3 ((hB5L.ext hxi (by first | (intro q g1 g2 g3; first | (have g3 : q = _ := g3; omega) | exact g3 (hD0.2.2 q (by omega)) | exact g3 (hD1.2.2 q (by omega)) | exact g3 (hD2.2.2 q (by omega)) | exact g3 (hD3.2.2 q (by omega)) | exact g3 (hz q (by omega)) | (have g3 : _ ≤ q := g3; omega)) | (intro hh; first | (have hh : _ = _ := hh; omega) | exact hh hp0 | exact hh hp1 | exact hh hp2 | exact hh hp3 | exact hh (hD0.2.2 _ (by omega)) | exact hh (hD1.2.2 _ (by omega)) | exact hh (hD2.2.2 _ (by omega)) | exact hh (hD3.2.2 _ (by omega)) | exact hh hpz | exact hh (hz _ (by omega)) | (have hh : _ ≤ _ := hh; omega)))).keep hk18) rfl rfl) ?_
          refine X.opw (X.wG rfl rfl rfl) rfl (X.move (v := .int .i64 _) rfl) ?_
          refine X.opP (X.wG rfl rfl rfl) rfl rfl (X.gtr rfl rfl) (fun h155 => ?_) (fun h155 => ?_)
          · refine X.opw X.wN rfl (X.pickF (v := .bool true) rfl rfl) ?_
            refine X.opsEnd ?_
            refine X.condT rfl ?_
            refine X.region ?_
            refine X.opw X.wN rfl (X.move (v := .int .i64 _) rfl) ?_
            refine X.opw X.wN rfl (X.fldB (j := 0) Try.underlying25 rfl rfl Try.sizeOf3 rfl) ?_
            refine X.opE X.wN rfl (X.storeE Try.sizeOf3 ((hB5L.ext hxi (by first | (intro q g1 g2 g3; first | (have g3 : q = _ := g3; omega) | exact g3 (hD0.2.2 q (by omega)) | exact g3 (hD1.2.2 q (by omega)) | exact g3 (hD2.2.2 q (by omega)) | exact g3 (hD3.2.2 q (by omega)) | exact g3 (hz q (by omega)) | (have g3 : _ ≤ q := g3; omega)) | (intro hh; first | (have hh : _ = _ := hh; omega) | exact hh hp0 | exact hh hp1 | exact hh hp2 | exact hh hp3 | exact hh (hD0.2.2 _ (by omega)) | exact hh (hD1.2.2 _ (by omega)) | exact hh (hD2.2.2 _ (by omega)) | exact hh (hD3.2.2 _ (by omega)) | exact hh hpz | exact hh (hz _ (by omega)) | (have hh : _ ≤ _ := hh; omega)))).keep hk18) rfl rfl rfl rfl) ?_
            rintro _ w20 ⟨hB20, hx20, hz20⟩
            refine X.opsEnd ?_
            refine hjoin ((st.chs.length : Nat) : Int) _ _ ⟨rfl, rfl, rfl, trivial⟩ ⟨by omega, hB20, hx20⟩
          · refine X.opw X.wN rfl (X.pickF (v := .bool false) rfl rfl) ?_
            refine X.opsEnd ?_
            refine X.condF rfl ?_
            refine X.skip ?_
            refine hjoin y.1 _ _ ⟨rfl, rfl, rfl, trivial⟩ ⟨by omega, hB59, Ext.refl _ _⟩
      rintro dn bj wj ⟨hdn, hBj, hj⟩
      have hj' := hj.size
      refine X.seq ?_
      refine X.region ?_
      refine X.opw X.wN rfl (X.move rfl) ?_
      refine X.opw X.wN rfl (X.loadNB Try.isAgg25 Try.sizeOf25 hBj rfl rfl rfl) ?_
      refine X.opE X.wN rfl (X.callE (loseK_c (lo := 0) (hi := w.heap.size) (hR9.ext hj (by intro q g1 g2; have g2 : q = _ := g2; subst g2; exact g1 (hz _ (by omega)))) hK (by omega) hdn (hq1.keep (hkB.step hj (by intro q g1; first | (have g1 : q = _ := g1; omega) | (have g1 : _ ≤ q := g1; omega)))) (hq2.keep (hkB.step hj (by intro q g1; first | (have g1 : q = _ := g1; omega) | (have g1 : _ ≤ q := g1; omega)))) (by omega)) Try.call14 rfl rfl) ?_
      rintro _ w21 ⟨bo, co, t9, rfl, hRt, hIt, hrt, hst9, hk21⟩
      have hk21' := hk21.size
      refine X.opw X.wN rfl (X.move rfl) ?_
      refine X.opw X.wN rfl (X.extr rfl rfl) ?_
      refine X.opw X.wN rfl (X.extr rfl rfl) ?_
      refine X.opw X.wN rfl (X.assign rfl) ?_
      refine X.opw X.wN rfl (X.assign (v := .int .i64 _) rfl) ?_
      refine X.opsEnd ?_
      refine X.seq ?_
      refine X.seq ?_
      refine X.region ?_
      refine X.opw X.wN rfl (X.move (v := .int .i64 _) rfl) ?_
      refine X.opw X.wN rfl (X.neI rfl rfl) ?_
      refine X.opw X.wN rfl (X.move (v := .bool false) rfl) ?_
      refine X.opw (X.wG rfl rfl rfl) rfl (X.move rfl) ?_
      refine X.opw (X.wG rfl rfl rfl) rfl (X.eqPtrN (A := some _) Try.underlying26 rfl rfl) ?_
      refine X.opw X.wN rfl (X.pickF (v := .bool false) rfl rfl) ?_
      refine X.opsEnd ?_
      refine X.condF rfl ?_
      refine X.skip ?_
      refine X.seq ?_
      refine X.region ?_
      refine X.opw X.wN rfl (X.move rfl) ?_
      refine X.opw X.wN rfl (X.move (v := .slice _ _ _) rfl) ?_
      refine X.opw X.wN rfl (X.lenSl Try.underlying22 rfl) ?_
      refine X.opE X.wN rfl (X.callE (readKm_c hwl hRt hIt hrt (by omega)) Try.call13 rfl rfl) ?_
      rintro _ w22 ⟨Ag, cg, rfl, hcg, hsg, hk22⟩
      have hk22' := hk22.size
      refine X.opw X.wN rfl (X.move rfl) ?_
      refine X.opw X.wN rfl (X.extr rfl rfl) ?_
      refine X.opw X.wN rfl (X.extr rfl rfl) ?_
      refine X.opw X.wN rfl (X.assign (v := .slice _ _ _) rfl) ?_
      refine X.opw X.wN rfl (X.assign (v := .int .i64 _) rfl) ?_
      refine X.opsEnd ?_
      refine X.seq ?_
      refine X.region ?_
      refine X.opw X.wN rfl (X.move rfl) ?_
      refine X.opE X.wN rfl (X.callE (sizeK_c (hRt.keep hk22) hIt hst9) Try.call12 rfl rfl) ?_
      rintro _ w23 ⟨rfl, hk23⟩
      have hk23' := hk23.size
      refine X.opw X.wN rfl (X.move rfl) ?_
      refine X.opw X.wN rfl (X.extr rfl rfl) ?_
      refine X.opw X.wN rfl (X.extr rfl rfl) ?_
      refine X.opw X.wN rfl (X.assign (v := .int .i64 _) rfl) ?_
      refine X.opw X.wN rfl (X.assign (v := .int .i64 _) rfl) ?_
      refine X.opsEnd ?_
      refine X.seq ?_
      refine X.region ?_
      refine X.opw X.wN rfl (X.move (v := .int .i64 _) rfl) ?_
      refine X.opw X.wN rfl (X.eqI rfl rfl) ?_
      refine X.opw X.wN rfl (X.move (v := .bool true) rfl) ?_
      refine X.opw (X.wG rfl rfl rfl) rfl (X.move (v := .int .i64 _) rfl) ?_
      refine X.opw (X.wG rfl rfl rfl) rfl (X.eqI rfl rfl) ?_
      refine X.opw X.wN rfl (X.pickT (v := .bool true) rfl rfl) ?_
      refine X.opw X.wN rfl (X.move (v := .bool true) rfl) ?_
      refine X.opw (X.wG rfl rfl rfl) rfl (X.move (v := .int .i64 _) rfl) ?_
      refine X.opw (X.wG rfl rfl rfl) rfl (X.move (v := .slice _ _ _) rfl) ?_
      refine X.opw (X.wG rfl rfl rfl) rfl (X.lenSl Try.underlying22 rfl) ?_
      refine X.opP (X.wG rfl rfl rfl) rfl rfl (X.eqI rfl rfl) (fun h193 => ?_) (fun h193 => ?_)
      · refine X.opw X.wN rfl (X.pickT (v := .bool true) rfl rfl) ?_
        refine X.opw X.wN rfl (X.move (v := .bool true) rfl) ?_
        refine X.opw (X.wG rfl rfl rfl) rfl (X.move (v := .slice _ _ _) rfl) ?_
        refine X.opw (X.wG rfl rfl rfl) rfl (X.str Try.underlying22 Try.underlying5 Try.underlying9 rfl KB_is rfl (hsg.keep hk23)) ?_
        refine X.opw (X.wG rfl rfl rfl) rfl (X.move (v := .slice _ _ _) rfl) ?_
        refine X.opw (X.wG rfl rfl rfl) rfl (X.str Try.underlying22 Try.underlying5 Try.underlying9 rfl KB_is rfl ((hb9.ext hj (by first | (intro q g1 g2 g3; first | (have g3 : q = _ := g3; omega) | exact g3 (hD0.2.2 q (by omega)) | exact g3 (hD1.2.2 q (by omega)) | exact g3 (hD2.2.2 q (by omega)) | exact g3 (hD3.2.2 q (by omega)) | exact g3 (hz q (by omega)) | (have g3 : _ ≤ q := g3; omega)) | (intro hh; first | (have hh : _ = _ := hh; omega) | exact hh hp0 | exact hh hp1 | exact hh hp2 | exact hh hp3 | exact hh (hD0.2.2 _ (by omega)) | exact hh (hD1.2.2 _ (by omega)) | exact hh (hD2.2.2 _ (by omega)) | exact hh (hD3.2.2 _ (by omega)) | exact hh hpz | exact hh (hz _ (by omega)) | (have hh : _ ≤ _ := hh; omega)))).keep ((hk21.trans hk22).trans hk23))) ?_
        refine X.opP (X.wG rfl rfl rfl) rfl rfl (X.eqD rfl rfl) (fun h200 => ?_) (fun h200 => ?_)
        · refine X.opw X.wN rfl (X.pickT (v := .bool true) rfl rfl) ?_
          refine X.opw X.wN rfl (X.move (v := .bool true) rfl) ?_
          refine X.opE (X.wG rfl rfl rfl) rfl (X.callE (alive_c _) Try.call11 rfl rfl) ?_
          rintro _ w24 ⟨rfl, hk24⟩
          have hk24' := hk24.size
          refine X.opw X.wN rfl (X.pickT (v := .bool _) rfl rfl) ?_
          refine X.opw X.wN rfl (X.assign (v := .bool _) rfl) ?_
          refine X.opsEnd ?_
          refine X.ret1 (v := (.bool _)) Try.func4 Try.results4 rfl ?_
          exact ⟨rfl, (((((hkB.step hj (by intro q g1; first | (have g1 : q = _ := g1; omega) | (have g1 : _ ≤ q := g1; omega))).trans hk21).trans hk22).trans hk23).trans hk24)⟩
        · exact absurd rfl h200
      · exact absurd (show ((bbx.length : Nat) : Int) = (m0 : Int) by omega) h193
  · refine X.opw X.wN rfl (X.move (v := .bool false) rfl) ?_
    refine X.opS rfl rfl rfl rfl rfl ?_
    refine X.opS rfl rfl rfl rfl rfl ?_
    refine X.opw X.wN rfl (X.pickF (v := .bool false) rfl rfl) ?_
    refine X.opsEnd ?_
    refine X.condF rfl ?_
    refine X.exit rfl ?_
    refine X.seq ?_
    refine X.region ?_
    refine X.opw X.wN rfl (X.move rfl) ?_
    refine X.opE X.wN rfl (X.callE (looseK_c hR hK (by omega)) Try.call20 rfl rfl) ?_
    rintro _ w25 ⟨x9, y9, rfl, hk25⟩
    have hk25' := hk25.size
    refine X.opw X.wN rfl (X.move rfl) ?_
    refine X.opw X.wN rfl (X.extr rfl rfl) ?_
    refine X.opw X.wN rfl (X.extr rfl rfl) ?_
    refine X.opw X.wN rfl (X.extr rfl rfl) ?_
    refine X.opw X.wN rfl (X.assign (v := .int .i64 _) rfl) ?_
    refine X.opw X.wN rfl (X.assign (v := .int .i64 _) rfl) ?_
    refine X.opw X.wN rfl (X.assign (v := .int .i64 _) rfl) ?_
    refine X.opsEnd ?_
    refine X.seq ?_
    -- JOIN live: 0=b, 5=loss, 9=d
    have hb9 := ((hbL.ext hxi (by first | (intro q g1 g2 g3; first | (have g3 : q = _ := g3; omega) | exact g3 (hD0.2.2 q (by omega)) | exact g3 (hD1.2.2 q (by omega)) | exact g3 (hD2.2.2 q (by omega)) | exact g3 (hD3.2.2 q (by omega)) | exact g3 (hz q (by omega)) | (have g3 : _ ≤ q := g3; omega)) | (intro hh; first | (have hh : _ = _ := hh; omega) | exact hh hp0 | exact hh hp1 | exact hh hp2 | exact hh hp3 | exact hh (hD0.2.2 _ (by omega)) | exact hh (hD1.2.2 _ (by omega)) | exact hh (hD2.2.2 _ (by omega)) | exact hh (hD3.2.2 _ (by omega)) | exact hh hpz | exact hh (hz _ (by omega)) | (have hh : _ ≤ _ := hh; omega)))).keep hk25)
    have hB59 := ((hB5L.ext hxi (by first | (intro q g1 g2 g3; first | (have g3 : q = _ := g3; omega) | exact g3 (hD0.2.2 q (by omega)) | exact g3 (hD1.2.2 q (by omega)) | exact g3 (hD2.2.2 q (by omega)) | exact g3 (hD3.2.2 q (by omega)) | exact g3 (hz q (by omega)) | (have g3 : _ ≤ q := g3; omega)) | (intro hh; first | (have hh : _ = _ := hh; omega) | exact hh hp0 | exact hh hp1 | exact hh hp2 | exact hh hp3 | exact hh (hD0.2.2 _ (by omega)) | exact hh (hD1.2.2 _ (by omega)) | exact hh (hD2.2.2 _ (by omega)) | exact hh (hD3.2.2 _ (by omega)) | exact hh hpz | exact hh (hz _ (by omega)) | (have hh : _ ≤ _ := hh; omega)))).keep hk25)
    have hR9 := (hR.keep hk25)
    have hkB : Keep w w25 := ((hkA.step hxi (by intro q g1; first | (have g1 : q = _ := g1; omega) | (have g1 : _ ≤ q := g1; omega))).trans hk25)
    refine X.joinW (σ := Int) (fun s => [(0, .slice A m0 c), (5, ptrV w.heap.size), (9, ptrV bd)]) (fun s w' => ¬ (s < 0 ∨ (st.chs.length : Int) < s) ∧ Blk w' w.heap.size [.int .i64 s, .slice Aq1 q1 r1, .slice Aq2 q2 r2] 25 ∧ Ext (fun q => q = w.heap.size) w25 w') (fun hjoin => ?_) ?_
    · refine X.seq ?_
      refine X.region ?_
      refine X.opw X.wN rfl (X.fldB (j := 0) Try.underlying25 rfl rfl Try.sizeOf3 rfl) ?_
      refine X.opw X.wN rfl (X.load1B Try.isAgg3 ((hB5L.ext hxi (by first | (intro q g1 g2 g3; first | (have g3 : q = _ := g3; omega) | exact g3 (hD0.2.2 q (by omega)) | exact g3 (hD1.2.2 q (by omega)) | exact g3 (hD2.2.2 q (by omega)) | exact g3 (hD3.2.2 q (by omega)) | exact g3 (hz q (by omega)) | (have g3 : _ ≤ q := g3; omega)) | (intro hh; first | (have hh : _ = _ := hh; omega) | exact hh hp0 | exact hh hp1 | exact hh hp2 | exact hh hp3 | exact hh (hD0.2.2 _ (by omega)) | exact hh (hD1.2.2 _ (by omega)) | exact hh (hD2.2.2 _ (by omega)) | exact hh (hD3.2.2 _ (by omega)) | exact hh hpz | exact hh (hz _ (by omega)) | (have hh : _ ≤ _ := hh; omega)))).keep hk25) rfl rfl) ?_
      refine X.opP X.wN rfl rfl (X.lss rfl rfl) (fun h150 => ?_) (fun h150 => ?_)
      · refine X.opw X.wN rfl (X.move (v := .bool true) rfl) ?_
        refine X.opS rfl rfl rfl rfl rfl ?_
        refine X.opS rfl rfl rfl rfl rfl ?_
        refine X.opS rfl rfl rfl rfl rfl ?_
        refine X.opS rfl rfl rfl rfl rfl ?_
        refine X.opw X.wN rfl (X.pickT (v := .bool true) rfl rfl) ?_
        refine X.opsEnd ?_
        refine X.condT rfl ?_
        refine X.region ?_
        refine X.opw X.wN rfl (X.move (v := .int .i64 _) rfl) ?_
        refine X.opw X.wN rfl (X.fldB (j := 0) Try.underlying25 rfl rfl Try.sizeOf3 rfl) ?_
        refine X.opE X.wN rfl (X.storeE Try.sizeOf3 ((hB5L.ext hxi (by first | (intro q g1 g2 g3; first | (have g3 : q = _ := g3; omega) | exact g3 (hD0.2.2 q (by omega)) | exact g3 (hD1.2.2 q (by omega)) | exact g3 (hD2.2.2 q (by omega)) | exact g3 (hD3.2.2 q (by omega)) | exact g3 (hz q (by omega)) | (have g3 : _ ≤ q := g3; omega)) | (intro hh; first | (have hh : _ = _ := hh; omega) | exact hh hp0 | exact hh hp1 | exact hh hp2 | exact hh hp3 | exact hh (hD0.2.2 _ (by omega)) | exact hh (hD1.2.2 _ (by omega)) | exact hh (hD2.2.2 _ (by omega)) | exact hh (hD3.2.2 _ (by omega)) | exact hh hpz | exact hh (hz _ (by omega)) | (have hh : _ ≤ _ := hh; omega)))).keep hk25) rfl rfl rfl rfl) ?_
        rintro _ w26 ⟨hB26, hx26, hz26⟩
        refine X.opsEnd ?_
        refine hjoin ((st.chs.length : Nat) : Int) _ _ ⟨rfl, rfl, rfl, trivial⟩ ⟨by omega, hB26, hx26⟩
      · refine X.opw X.wN rfl (X.move (v := .bool false) rfl) ?_
        refine X.opw (X.wG rfl rfl rfl) rfl (X.fldB (j := 0) Try.underlying25 rfl rfl Try.sizeOf3 rfl) ?_
        refine X.opw (X.wG rfl rfl rfl) rfl (X.load1B Try.isAgg3 ((hB5L.ext hxi (by first | (intro q g1 g2 g3; first | (have g3 : q = _ := g3; omega) | exact g3 (hD0.2.2 q (by omega)) | exact g3 (hD1.2.2 q (by omega)) | exact g3 (hD2.2.2 q (by omega)) | exact g3 (hD3.2.2 q (by omega)) | exact g3 (hz q (by omega)) | (have g3 : _ ≤ q := g3; omega)) | (intro hh; first | (have hh : _ = _ := hh; omega) | exact hh hp0 | exact hh hp1 | exact hh hp2 | exact hh hp3 | exact hh (hD0.2.2 _ (by omega)) | exact hh (hD1.2.2 _ (by omega)) | exact hh (hD2.2.2 _ (by omega)) | exact hh (hD3.2.2 _ (by omega)) | exact hh hpz | exact hh (hz _ (by omega)) | (have hh : _ ≤ _ := hh; omega)))).keep hk25) rfl rfl) ?_
        refine X.opw (X.wG rfl rfl rfl) rfl (X.move (v := .int .i64 _) rfl) ?_
        refine X.opP (X.wG rfl rfl rfl) rfl rfl (X.gtr rfl rfl) (fun h155 => ?_) (fun h155 => ?_)
        · refine X.opw X.wN rfl (X.pickF (v := .bool true) rfl rfl) ?_
          refine X.opsEnd ?_
          refine X.condT rfl ?_
          refine X.region ?_
          refine X.opw X.wN rfl (X.move (v := .int .i64 _) rfl) ?_
          refine X.opw X.wN rfl (X.fldB (j := 0) Try.underlying25 rfl rfl Try.sizeOf3 rfl) ?_
          refine X.opE X.wN rfl (X.storeE Try.sizeOf3 ((hB5L.ext hxi (by first | (intro q g1 g2 g3; first | (have g3 : q = _ := g3; omega) | exact g3 (hD0.2.2 q (by omega)) | exact g3 (hD1.2.2 q (by omega)) | exact g3 (hD2.2.2 q (by omega)) | exact g3 (hD3.2.2 q (by omega)) | exact g3 (hz q (by omega)) | (have g3 : _ ≤ q := g3; omega)) | (intro hh; first | (have hh : _ = _ := hh; omega) | exact hh hp0 | exact hh hp1 | exact hh hp2 | exact hh hp3 | exact hh (hD0.2.2 _ (by omega)) | exact hh (hD1.2.2 _ (by omega)) | exact hh (hD2.2.2 _ (by omega)) | exact hh (hD3.2.2 _ (by omega)) | exact hh hpz | exact hh (hz _ (by omega)) | (have hh : _ ≤ _ := hh; omega)))).keep hk25) rfl rfl rfl rfl) ?_
          rintro _ w27 ⟨hB27, hx27, hz27⟩
          refine X.opsEnd ?_
          refine hjoin ((st.chs.length : Nat) : Int) _ _ ⟨rfl, rfl, rfl, trivial⟩ ⟨by omega, hB27, hx27⟩
        · refine X.opw X.wN rfl (X.pickF (v := .bool false) rfl rfl) ?_
          refine X.opsEnd ?_
          refine X.condF rfl ?_
          refine X.skip ?_
          refine hjoin y.1 _ _ ⟨rfl, rfl, rfl, trivial⟩ ⟨by omega, hB59, Ext.refl _ _⟩
    rintro dn bj wj ⟨hdn, hBj, hj⟩
    have hj' := hj.size
    refine X.seq ?_
    refine X.region ?_
    refine X.opw X.wN rfl (X.move rfl) ?_
    refine X.opw X.wN rfl (X.loadNB Try.isAgg25 Try.sizeOf25 hBj rfl rfl rfl) ?_
    refine X.opE X.wN rfl (X.callE (loseK_c (lo := 0) (hi := w.heap.size) (hR9.ext hj (by intro q g1 g2; have g2 : q = _ := g2; subst g2; exact g1 (hz _ (by omega)))) hK (by omega) hdn (hq1.keep (hkB.step hj (by intro q g1; first | (have g1 : q = _ := g1; omega) | (have g1 : _ ≤ q := g1; omega)))) (hq2.keep (hkB.step hj (by intro q g1; first | (have g1 : q = _ := g1; omega) | (have g1 : _ ≤ q := g1; omega)))) (by omega)) Try.call14 rfl rfl) ?_
    rintro _ w28 ⟨bo, co, t9, rfl, hRt, hIt, hrt, hst9, hk28⟩
    have hk28' := hk28.size
    refine X.opw X.wN rfl (X.move rfl) ?_
    refine X.opw X.wN rfl (X.extr rfl rfl) ?_
    refine X.opw X.wN rfl (X.extr rfl rfl) ?_
    refine X.opw X.wN rfl (X.assign rfl) ?_
    refine X.opw X.wN rfl (X.assign (v := .int .i64 _) rfl) ?_
    refine X.opsEnd ?_
    refine X.seq ?_
    refine X.seq ?_
    refine X.region ?_
    refine X.opw X.wN rfl (X.move (v := .int .i64 _) rfl) ?_
    refine X.opw X.wN rfl (X.neI rfl rfl) ?_
    refine X.opw X.wN rfl (X.move (v := .bool false) rfl) ?_
    refine X.opw (X.wG rfl rfl rfl) rfl (X.move rfl) ?_
    refine X.opw (X.wG rfl rfl rfl) rfl (X.eqPtrN (A := some _) Try.underlying26 rfl rfl) ?_
    refine X.opw X.wN rfl (X.pickF (v := .bool false) rfl rfl) ?_
    refine X.opsEnd ?_
    refine X.condF rfl ?_
    refine X.skip ?_
    refine X.seq ?_
    refine X.region ?_
    refine X.opw X.wN rfl (X.move rfl) ?_
    refine X.opw X.wN rfl (X.move (v := .slice _ _ _) rfl) ?_
    refine X.opw X.wN rfl (X.lenSl Try.underlying22 rfl) ?_
    refine X.opE X.wN rfl (X.callE (readKm_c hwl hRt hIt hrt (by omega)) Try.call13 rfl rfl) ?_
    rintro _ w29 ⟨Ag, cg, rfl, hcg, hsg, hk29⟩
    have hk29' := hk29.size
    refine X.opw X.wN rfl (X.move rfl) ?_
    refine X.opw X.wN rfl (X.extr rfl rfl) ?_
    refine X.opw X.wN rfl (X.extr rfl rfl) ?_
    refine X.opw X.wN rfl (X.assign (v := .slice _ _ _) rfl) ?_
    refine X.opw X.wN rfl (X.assign (v := .int .i64 _) rfl) ?_
    refine X.opsEnd ?_
    refine X.seq ?_
    refine X.region ?_
    refine X.opw X.wN rfl (X.move rfl) ?_
    refine X.opE X.wN rfl (X.callE (sizeK_c (hRt.keep hk29) hIt hst9) Try.call12 rfl rfl) ?_
    rintro _ w30 ⟨rfl, hk30⟩
    have hk30' := hk30.size
    refine X.opw X.wN rfl (X.move rfl) ?_
    refine X.opw X.wN rfl (X.extr rfl rfl) ?_
    refine X.opw X.wN rfl (X.extr rfl rfl) ?_
    refine X.opw X.wN rfl (X.assign (v := .int .i64 _) rfl) ?_
    refine X.opw X.wN rfl (X.assign (v := .int .i64 _) rfl) ?_
    refine X.opsEnd ?_
    refine X.seq ?_
    refine X.region ?_
    refine X.opw X.wN rfl (X.move (v := .int .i64 _) rfl) ?_
    refine X.opw X.wN rfl (X.eqI rfl rfl) ?_
    refine X.opw X.wN rfl (X.move (v := .bool true) rfl) ?_
    refine X.opw (X.wG rfl rfl rfl) rfl (X.move (v := .int .i64 _) rfl) ?_
    refine X.opw (X.wG rfl rfl rfl) rfl (X.eqI rfl rfl) ?_
    refine X.opw X.wN rfl (X.pickT (v := .bool true) rfl rfl) ?_
    refine X.opw X.wN rfl (X.move (v := .bool true) rfl) ?_
    refine X.opw (X.wG rfl rfl rfl) rfl (X.move (v := .int .i64 _) rfl) ?_
    refine X.opw (X.wG rfl rfl rfl) rfl (X.move (v := .slice _ _ _) rfl) ?_
    refine X.opw (X.wG rfl rfl rfl) rfl (X.lenSl Try.underlying22 rfl) ?_
    refine X.opP (X.wG rfl rfl rfl) rfl rfl (X.eqI rfl rfl) (fun h193 => ?_) (fun h193 => ?_)
    · refine X.opw X.wN rfl (X.pickT (v := .bool true) rfl rfl) ?_
      refine X.opw X.wN rfl (X.move (v := .bool true) rfl) ?_
      refine X.opw (X.wG rfl rfl rfl) rfl (X.move (v := .slice _ _ _) rfl) ?_
      refine X.opw (X.wG rfl rfl rfl) rfl (X.str Try.underlying22 Try.underlying5 Try.underlying9 rfl KB_is rfl (hsg.keep hk30)) ?_
      refine X.opw (X.wG rfl rfl rfl) rfl (X.move (v := .slice _ _ _) rfl) ?_
      refine X.opw (X.wG rfl rfl rfl) rfl (X.str Try.underlying22 Try.underlying5 Try.underlying9 rfl KB_is rfl ((hb9.ext hj (by first | (intro q g1 g2 g3; first | (have g3 : q = _ := g3; omega) | exact g3 (hD0.2.2 q (by omega)) | exact g3 (hD1.2.2 q (by omega)) | exact g3 (hD2.2.2 q (by omega)) | exact g3 (hD3.2.2 q (by omega)) | exact g3 (hz q (by omega)) | (have g3 : _ ≤ q := g3; omega)) | (intro hh; first | (have hh : _ = _ := hh; omega) | exact hh hp0 | exact hh hp1 | exact hh hp2 | exact hh hp3 | exact hh (hD0.2.2 _ (by omega)) | exact hh (hD1.2.2 _ (by omega)) | exact hh (hD2.2.2 _ (by omega)) | exact hh (hD3.2.2 _ (by omega)) | exact hh hpz | exact hh (hz _ (by omega)) | (have hh : _ ≤ _ := hh; omega)))).keep ((hk28.trans hk29).trans hk30))) ?_
      refine X.opP (X.wG rfl rfl rfl) rfl rfl (X.eqD rfl rfl) (fun h200 => ?_) (fun h200 => ?_)
      · refine X.opw X.wN rfl (X.pickT (v := .bool true) rfl rfl) ?_
        refine X.opw X.wN rfl (X.move (v := .bool true) rfl) ?_
        refine X.opE (X.wG rfl rfl rfl) rfl (X.callE (alive_c _) Try.call11 rfl rfl) ?_
        rintro _ w31 ⟨rfl, hk31⟩
        have hk31' := hk31.size
        refine X.opw X.wN rfl (X.pickT (v := .bool _) rfl rfl) ?_
        refine X.opw X.wN rfl (X.assign (v := .bool _) rfl) ?_
        refine X.opsEnd ?_
        refine X.ret1 (v := (.bool _)) Try.func4 Try.results4 rfl ?_
        exact ⟨rfl, (((((hkB.step hj (by intro q g1; first | (have g1 : q = _ := g1; omega) | (have g1 : _ ≤ q := g1; omega))).trans hk28).trans hk29).trans hk30).trans hk31)⟩
      · exact absurd rfl h200
    · exact absurd (show ((bbx.length : Nat) : Int) = (m0 : Int) by omega) h193
end Go.Proofs.Ytcdebnppbnmmgaa
