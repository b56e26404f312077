/- The program's scan, and pieces held against one another. -/
import Derived.Test.YtleaidgngkfjbaaDoorCrcU
namespace Go.Proofs.YtleaidgngkfjbaaDoor
open Go Go.Proofs.YtleaidgngkfjbaaDoor.X
set_option linter.unusedVariables false
set_option linter.unusedSimpArgs false
theorem getP {G : Nat → Prop} {w : World} {vs : List Value} {ps : List PCE} (h : PData G w vs ps) {i : Nat} {v : Value} (hv : vs[i]? = some v) : ∃ k bs A n c, ps[i]? = some (k, bs) ∧ v = .agg #[.int .u8 (k.toNat : Int), .slice A n c] ∧ Sl KB 0 w.heap.size w A n bs := by
  have hl := h.len
  have hi : i < vs.length := (List.getElem?_eq_some_iff.1 hv).1
  obtain ⟨A, n, c, lo, hi', h1, h2, h3⟩ := h.get (List.getElem?_eq_getElem (show i < ps.length by omega))
  rw [hv] at h1
  exact ⟨_, _, A, n, c, List.getElem?_eq_getElem (by omega), by simpa using h1, h3.all KB_flat (by decide)⟩
theorem str_inj {a b : List UInt8} : (⟨a.toArray⟩ : ByteArray) = ⟨b.toArray⟩ ↔ a = b := by
  constructor
  · intro h; have := congrArg (fun x : ByteArray => x.data.toList) h; simpa using this
  · rintro rfl; rfl
theorem same_step {ps qs : List PCE} {i : Nat} {k1 k2 : UInt8} {b1 b2 : List UInt8} (h1 : ps[i]? = some (k1, b1)) (h2 : qs[i]? = some (k2, b2)) (hk : ¬ ((k1.toNat : Int) ≠ (k2.toNat : Int))) (hb : ¬ ((⟨b1.toArray⟩ : ByteArray) ≠ ⟨b2.toArray⟩)) (ht : ps.take i = qs.take i) : ps.take (i + 1) = qs.take (i + 1) := by
  have e1 : k1 = k2 := UInt8.toNat_inj.1 (by omega)
  have e2 : b1 = b2 := str_inj.1 (Decidable.not_not.1 hb)
  rw [take_at h1, take_at h2, ht, e1, e2]
-- f30 "pedigree/pedigreeref04.Same" params [51, 51] results [4] -> [(ResultVar.tmp 4)] nfree 0 ntmps 43 names
set_option maxHeartbeats 4000000 in
set_option maxRecDepth 100000 in
theorem Same_c {lo1 hi1 lo2 hi2 : Nat} {A1 A2 : Option Addr} {n1 n2 c1 c2 : Nat} {vs1 vs2 : List Value} {ps qs : List PCE} {G1 G2 : Nat → Prop} (w : World) (hs1 : Sl (KRN 2) lo1 hi1 w A1 n1 vs1) (hs2 : Sl (KRN 2) lo2 hi2 w A2 n2 vs2) (hd1 : PData G1 w vs1 ps) (hd2 : PData G2 w vs2 qs) : Ret Tryd.prog 30 #[.slice A1 n1 c1, .slice A2 n2 c2] w fun r w' => r = .bool (decide (ps = qs)) ∧ Keep w w' := by
  have hl1 := hs1.len
  have hl2 := hs2.len
  have hbd := hs1.bound
  refine X.enter Tryd.func30 rfl Tryd.ntmps30 rfl ?_
  refine X.seq ?_
  refine X.region ?_
  refine X.opw X.wN rfl (X.assign rfl) ?_
  refine X.opsEnd ?_
  refine X.seq ?_
  refine X.seq ?_
  refine X.region ?_
  refine X.opw X.wN rfl (X.move (v := .slice _ _ _) rfl) ?_
  refine X.opw X.wN rfl (X.lenSl Tryd.underlying51 rfl) ?_
  refine X.opw X.wN rfl (X.move (v := .slice _ _ _) rfl) ?_
  refine X.opw X.wN rfl (X.lenSl Tryd.underlying51 rfl) ?_
  refine X.opP X.wN rfl rfl (X.neI rfl rfl) (fun h10 => ?_) (fun h10 => ?_)
  · refine X.opsEnd ?_
    refine X.condT rfl ?_
    refine X.seq ?_
    refine X.region ?_
    refine X.opw X.wN rfl (X.assign rfl) ?_
    refine X.opsEnd ?_
    refine X.ret1 (v := (.bool _)) Tryd.func30 Tryd.results30 rfl ?_
    exact ⟨by congr 1; exact (decide_eq_false (fun e => h10 (by rw [← hl1, ← hl2, hd1.len, hd2.len, e]))).symm, (Keep.refl _)⟩
  · refine X.opsEnd ?_
    refine X.condF rfl ?_
    refine X.skip ?_
    refine X.seq ?_
    refine X.seq ?_
    refine X.region ?_
    refine X.opw X.wN rfl (X.assign rfl) ?_
    refine X.opsEnd ?_
    refine X.block ?_
    -- LOOP live: 0=a, 1=b, 5=i*
    refine X.loopL (σ := Nat) (fun s => [(0, .slice A1 n1 c1), (1, .slice A2 n2 c2), (5, .int .i64 (s : Int))]) (fun s w' => s ≤ n1 ∧ ps.take s = qs.take s ∧ Keep w w') (fun s => n1 - s) 0 ⟨rfl, rfl, rfl, trivial⟩ ⟨by simp, by simp, (Keep.refl _)⟩ ?_
    rintro i b wl ⟨hi0, ht, hk⟩ hback
    refine X.seq ?_
    refine X.seq ?_
    refine X.region ?_
    refine X.opw X.wN rfl (X.move (v := .int .i64 _) rfl) ?_
    refine X.opw X.wN rfl (X.move (v := .slice _ _ _) rfl) ?_
    refine X.opw X.wN rfl (X.lenSl Tryd.underlying51 rfl) ?_
    refine X.opP X.wN rfl rfl (X.lss rfl rfl) (fun h14 => ?_) (fun h14 => ?_)
    · obtain ⟨y1, hx1⟩ := getN i hl1 h14
      obtain ⟨k1, b1, B1, m1, d1, hp1, rfl, hq1⟩ := getP hd1 hx1
      obtain ⟨y2, hx2⟩ := getN i hl2 (by omega)
      obtain ⟨k2, b2, B2, m2, d2, hp2, rfl, hq2⟩ := getP hd2 hx2
      refine X.opsEnd ?_
      refine X.condT rfl ?_
      refine X.skip ?_
      refine X.seq ?_
      refine X.block ?_
      refine X.seq ?_
      refine X.regionD (fun _ => False) 26 (by kernel_rfl) (by kernel_rfl) (fun w1 hk1 hz1 => ?_)
      refine X.dTake 0 rfl (by kernel_rfl) (by kernel_rfl) (by kernel_rfl) (X.dwN rfl) (fun w' hk' => X.move (v := .slice _ _ _) rfl) ?_
      refine X.dTake 1 rfl (by kernel_rfl) (by kernel_rfl) (by kernel_rfl) (X.dwN rfl) (fun w' hk' => X.move (v := .int .i64 _) rfl) ?_
      refine X.dTake 2 rfl (by kernel_rfl) (by kernel_rfl) (by kernel_rfl) (X.dwN rfl) (fun w' hk' => X.idxS (hs1.keep ((hk.trans hk1).trans hk')) Tryd.underlying51 Tryd.sizeOf33 rfl rfl ⟨by omega, by omega⟩) ?_
      refine X.dTake 3 rfl (by kernel_rfl) (by kernel_rfl) (by kernel_rfl) (X.dwN rfl) (fun w' hk' => X.fldA Tryd.underlying33 rfl rfl Tryd.sizeOf5) ?_
      refine X.dTake 4 rfl (by kernel_rfl) (by kernel_rfl) (by kernel_rfl) (X.dwN rfl) (fun w' hk' => X.loadSf Tryd.isAgg5 (hs1.keep ((hk.trans hk1).trans hk')) hx1 rfl (fun _ h => by rw [KRN2 h]; rfl)) ?_
      refine X.dTake 5 rfl (by kernel_rfl) (by kernel_rfl) (by kernel_rfl) (X.dwN rfl) (fun w' hk' => X.move (v := .slice _ _ _) rfl) ?_
      refine X.dTake 6 rfl (by kernel_rfl) (by kernel_rfl) (by kernel_rfl) (X.dwN rfl) (fun w' hk' => X.move (v := .int .i64 _) rfl) ?_
      refine X.dTake 7 rfl (by kernel_rfl) (by kernel_rfl) (by kernel_rfl) (X.dwN rfl) (fun w' hk' => X.idxS (hs2.keep ((hk.trans hk1).trans hk')) Tryd.underlying51 Tryd.sizeOf33 rfl rfl ⟨by omega, by omega⟩) ?_
      refine X.dTake 8 rfl (by kernel_rfl) (by kernel_rfl) (by kernel_rfl) (X.dwN rfl) (fun w' hk' => X.fldA Tryd.underlying33 rfl rfl Tryd.sizeOf5) ?_
      refine X.dTake 9 rfl (by kernel_rfl) (by kernel_rfl) (by kernel_rfl) (X.dwN rfl) (fun w' hk' => X.loadSf Tryd.isAgg5 (hs2.keep ((hk.trans hk1).trans hk')) hx2 rfl (fun _ h => by rw [KRN2 h]; rfl)) ?_
      refine X.dTake 10 rfl (by kernel_rfl) (by kernel_rfl) (by kernel_rfl) (X.dwN rfl) (fun w' hk' => X.neI rfl rfl) ?_
      refine X.dTake 11 rfl (by kernel_rfl) (by kernel_rfl) (by kernel_rfl) (X.dwN rfl) (fun w' hk' => X.move (v := .bool _) rfl) ?_
      refine X.dFork 28 rfl (fun h28 => ?_) (fun h28 => ?_)
      · refine X.dTakeS 12 rfl (by kernel_rfl) (by kernel_rfl) (by kernel_rfl) rfl rfl rfl rfl ?_
        refine X.dTakeS 13 rfl (by kernel_rfl) (by kernel_rfl) (by kernel_rfl) rfl rfl rfl rfl ?_
        refine X.dTakeS 14 rfl (by kernel_rfl) (by kernel_rfl) (by kernel_rfl) rfl rfl rfl rfl ?_
        refine X.dTakeS 15 rfl (by kernel_rfl) (by kernel_rfl) (by kernel_rfl) rfl rfl rfl rfl ?_
        refine X.dTakeS 16 rfl (by kernel_rfl) (by kernel_rfl) (by kernel_rfl) rfl rfl rfl rfl ?_
        refine X.dTakeS 17 rfl (by kernel_rfl) (by kernel_rfl) (by kernel_rfl) rfl rfl rfl rfl ?_
        refine X.dTakeS 18 rfl (by kernel_rfl) (by kernel_rfl) (by kernel_rfl) rfl rfl rfl rfl ?_
        refine X.dSkip (i := 19) (by kernel_rfl) rfl rfl rfl rfl rfl ?_
        refine X.dSkip (i := 20) (by kernel_rfl) rfl rfl rfl rfl rfl ?_
        refine X.dSkip (i := 21) (by kernel_rfl) rfl rfl rfl rfl rfl ?_
        refine X.dSkip (i := 22) (by kernel_rfl) rfl rfl rfl rfl rfl ?_
        refine X.dSkip (i := 23) (by kernel_rfl) rfl rfl rfl rfl rfl ?_
        refine X.dSkip (i := 24) (by kernel_rfl) rfl rfl rfl rfl rfl ?_
        refine X.dTake 25 rfl (by kernel_rfl) (by kernel_rfl) (by kernel_rfl) (X.dwN rfl) (fun w' hk' => X.pickT (v := .bool true) rfl rfl) ?_
        refine X.dEnd (by kernel_rfl) ?_
        refine X.condT rfl ?_
        refine X.seq ?_
        refine X.region ?_
        refine X.opw X.wN rfl (X.assign rfl) ?_
        refine X.opsEnd ?_
        refine X.ret1 (v := (.bool _)) Tryd.func30 Tryd.results30 rfl ?_
        refine ⟨by congr 1; refine (decide_eq_false (fun e => ?_)).symm; rw [e, hp2] at hp1; cases hp1; exact (of_decide_eq_true h28) rfl, (hk.trans hk1)⟩
      · refine X.dTake 12 rfl (by kernel_rfl) (by kernel_rfl) (by kernel_rfl) (X.dwG rfl rfl rfl) (fun w' hk' => X.move (v := .slice _ _ _) rfl) ?_
        refine X.dTake 13 rfl (by kernel_rfl) (by kernel_rfl) (by kernel_rfl) (X.dwG rfl rfl rfl) (fun w' hk' => X.move (v := .int .i64 _) rfl) ?_
        refine X.dTake 14 rfl (by kernel_rfl) (by kernel_rfl) (by kernel_rfl) (X.dwG rfl rfl rfl) (fun w' hk' => X.idxS (hs1.keep ((hk.trans hk1).trans hk')) Tryd.underlying51 Tryd.sizeOf33 rfl rfl ⟨by omega, by omega⟩) ?_
        refine X.dTake 15 rfl (by kernel_rfl) (by kernel_rfl) (by kernel_rfl) (X.dwG rfl rfl rfl) (fun w' hk' => X.fldA Tryd.underlying33 rfl rfl Tryd.sizeOf22) ?_
        refine X.dTake 16 rfl (by kernel_rfl) (by kernel_rfl) (by kernel_rfl) (X.dwG rfl rfl rfl) (fun w' hk' => X.loadSf Tryd.isAgg22 (hs1.keep ((hk.trans hk1).trans hk')) hx1 rfl (fun _ h => by rw [KRN2 h]; rfl)) ?_
        refine X.dTake 17 rfl (by kernel_rfl) (by kernel_rfl) (by kernel_rfl) (X.dwG rfl rfl rfl) (fun w' hk' => X.str Tryd.underlying22 Tryd.underlying5 Tryd.underlying9 rfl KB_is rfl (hq1.keep ((hk.trans hk1).trans hk'))) ?_
        refine X.dTake 18 rfl (by kernel_rfl) (by kernel_rfl) (by kernel_rfl) (X.dwG rfl rfl rfl) (fun w' hk' => X.move (v := .slice _ _ _) rfl) ?_
        refine X.dTake 19 rfl (by kernel_rfl) (by kernel_rfl) (by kernel_rfl) (X.dwG rfl rfl rfl) (fun w' hk' => X.move (v := .int .i64 _) rfl) ?_
        refine X.dTake 20 rfl (by kernel_rfl) (by kernel_rfl) (by kernel_rfl) (X.dwG rfl rfl rfl) (fun w' hk' => X.idxS (hs2.keep ((hk.trans hk1).trans hk')) Tryd.underlying51 Tryd.sizeOf33 rfl rfl ⟨by omega, by omega⟩) ?_
        refine X.dTake 21 rfl (by kernel_rfl) (by kernel_rfl) (by kernel_rfl) (X.dwG rfl rfl rfl) (fun w' hk' => X.fldA Tryd.underlying33 rfl rfl Tryd.sizeOf22) ?_
        refine X.dTake 22 rfl (by kernel_rfl) (by kernel_rfl) (by kernel_rfl) (X.dwG rfl rfl rfl) (fun w' hk' => X.loadSf Tryd.isAgg22 (hs2.keep ((hk.trans hk1).trans hk')) hx2 rfl (fun _ h => by rw [KRN2 h]; rfl)) ?_
        refine X.dTake 23 rfl (by kernel_rfl) (by kernel_rfl) (by kernel_rfl) (X.dwG rfl rfl rfl) (fun w' hk' => X.str Tryd.underlying22 Tryd.underlying5 Tryd.underlying9 rfl KB_is rfl (hq2.keep ((hk.trans hk1).trans hk'))) ?_
        refine X.dTake 24 rfl (by kernel_rfl) (by kernel_rfl) (by kernel_rfl) (X.dwG rfl rfl rfl) (fun w' hk' => X.neD rfl rfl) ?_
        refine X.dTake 25 rfl (by kernel_rfl) (by kernel_rfl) (by kernel_rfl) (X.dwN rfl) (fun w' hk' => X.pickF (v := .bool _) rfl rfl) ?_
        refine X.dEnd (by kernel_rfl) ?_
        refine X.condB rfl (fun hc => ?_) (fun hc => ?_)
        · refine X.seq ?_
          refine X.region ?_
          refine X.opw X.wN rfl (X.assign rfl) ?_
          refine X.opsEnd ?_
          refine X.ret1 (v := (.bool _)) Tryd.func30 Tryd.results30 rfl ?_
          refine ⟨by congr 1; refine (decide_eq_false (fun e => ?_)).symm; rw [e, hp2] at hp1; cases hp1; exact (of_decide_eq_true hc) rfl, (hk.trans hk1)⟩
        · refine X.skip ?_
          refine X.inBlock ?_
          refine X.region ?_
          refine X.opw X.wN rfl (X.move (v := .int .i64 _) rfl) ?_
          refine X.opw X.wN rfl (X.add rfl rfl (X.w_i64 (by omega))) ?_
          refine X.opw X.wN rfl (X.assign (v := .int .i64 _) rfl) ?_
          refine X.opsEnd ?_
          refine hback (i + 1) _ _ ⟨rfl, rfl, rfl, trivial⟩ ⟨by omega, same_step hp1 hp2 (of_decide_eq_false h28) (of_decide_eq_false hc) ht, (hk.trans hk1)⟩ (by omega)
    · refine X.opsEnd ?_
      refine X.condF rfl ?_
      refine X.exit rfl ?_
      refine X.seq ?_
      refine X.region ?_
      refine X.opw X.wN rfl (X.assign rfl) ?_
      refine X.opsEnd ?_
      refine X.ret1 (v := (.bool _)) Tryd.func30 Tryd.results30 rfl ?_
      refine ⟨by congr 1; refine (decide_eq_true ?_).symm; rw [List.take_of_length_le (by rw [← hd1.len]; omega), List.take_of_length_le (by rw [← hd2.len]; omega)] at ht; exact ht, hk⟩
end Go.Proofs.YtleaidgngkfjbaaDoor
