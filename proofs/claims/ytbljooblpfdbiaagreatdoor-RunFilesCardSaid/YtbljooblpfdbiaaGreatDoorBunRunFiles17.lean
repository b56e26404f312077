/- Texts that the proof of RunFiles stands on, part 17. -/
import Derived.Test.YtbljooblpfdbiaaGreatDoorRows
import Derived.LaidMore
import Derived.ProofKit
import Derived.OpenShut
import Derived.Stop.Joined
import Derived.KernelRfl
import Derived.Test.YtbljooblpfdbiaaGreatDoorProg
import Derived.Test.YtbljooblpfdbiaaGreatDoorBunRunFiles16
set_option maxHeartbeats 4000000
set_option maxRecDepth 100000
open Go.Proofs.Tryz renaming call11 → Zc11, func30 → Zf30, func33 → Zf33, func8 → Zf8, results30 → Zr30, results33 → Zr33, results8 → Zr8, underlying22 → Zu22, underlying26 → Zu26, underlying79 → Zu79
set_option linter.unusedSimpArgs false
set_option linter.unusedVariables false
namespace Go.Proofs.YtbljooblpfdbiaaGreatDoor
open Go Go.Proofs.YtbljooblpfdbiaaGreatDoor.X Go.ChangeShapes Go.WideShapes Go.ChangeAt Go.RowKit
def laidT : List (String × DataW Unit) := [("pedigree/crc.table", Rows.laid_pedigree_crc_table)]
theorem gTab : Tryz.prog.globalNamed "pedigree/crc.table" = some 0 := by kernel_rfl
theorem tTab : (Tryz.prog.globals[0]?).map (·.type) = some 244 := by kernel_rfl
theorem c32 : Tryz.prog.cellsOf 68 = 1 := by kernel_rfl
theorem tab_list : Rows.laid_pedigree_crc_table = (DataW.agg (tabL.map fun (n : Nat) => .lit (.int .u32 (n : Int))) : DataW Unit) := rfl
theorem tab_at : ∀ i : Fin 16, tabL[i.1]? = some (tabV i.1).toNat := by decide
theorem door_met (os : Os) (args : Array Value) : laidMetH Tryz.prog laidT ((World.doorLaid Tryz.prog 400 os).forCall (fun _ _ => 0) ⟨#[], args, []⟩).memory :=
  laidMetH_of_parts3 (fuel := 8) (laidMet_of_run' 8 Zl Zl) Zl Zl
theorem tabOk_of_laid {W : World} (h : laidMetH Tryz.prog laidT W) : TabOk W := by
  rw [MakeChecks.laidMetH_plain _ _ _ Zl] at h
  obtain ⟨ps, ⟨g0, t0, cs0, f0, p0, q0, hg0, ht0, hv0, hd0, _, _⟩, _, _⟩ := h
  obtain rfl := Option.some.inj (gTab.symm.trans hg0)
  obtain rfl := Option.some.inj (tTab.symm.trans ht0)
  obtain ⟨xs, m1, rfl, hx1, hlen, hn, hel⟩ := DataW.trod_array Tryz.underlying244 hd0
  intro i hi
  rw [tab_list] at hx1
  simp only [Prod.mk.injEq, DataW.agg.injEq] at hx1
  obtain ⟨x, hx⟩ : ∃ x, xs[i]? = some x := ⟨xs[i]'Zz, List.getElem?_eq_getElem Zz⟩
  have h1 := hel i hi
  rw [hx, c32] at h1
  obtain ⟨k, e1, e2, _⟩ := DataW.trod_int Tryz.underlying68 h1
  have h2 : (xs.map (·.1))[i]? = some x.1 := by rw [List.getElem?_map, hx]; rfl
  rw [← hx1.1, List.getElem?_map, tab_at ⟨i, hi⟩, e2] at h2
  have hk : k = ((tabV i).toNat : Int) := by
    simp at h2
    exact h2.symm
  subst hk
  have h3 : (cs0.toList.drop (i * 1)).take 1 = [Value.int .u32 ((tabV i).toNat : Int)] := e1
  have h4 : cs0.toList[i]? = some (Value.int .u32 ((tabV i).toNat : Int)) := by
    have := congrArg (fun l => l[0]?) h3
    rw [Nat.mul_one] at this
    simpa [List.getElem?_take, List.getElem?_drop] using this
  rw [World.var?_cell hg0 hv0 i]
  simpa using h4
end Go.Proofs.YtbljooblpfdbiaaGreatDoor
namespace Go.Proofs.YtbljooblpfdbiaaGreatDoor
open Go Go.Proofs.YtbljooblpfdbiaaGreatDoor.X
theorem RNew_c (rm : Int) (w : World) (hrm : 1 ≤ rm ∧ rm ≤ 1048576) : Ret Tryz.prog 30 #[.int .i64 rm] w fun r w' => r = .tuple #[ptrV w.heap.size, .int .i64 0] ∧ Blk w' w.heap.size [.int .i64 rm, .slice none 0 0, .slice none 0 0, .slice none 0 0, .slice none 0 0, .bool false, .int .i64 0] 134 ∧ Keep w w' := by
 refine X.enter Zf30 rfl Tryz.ntmps30 rfl<|Zs<|Zr<|Zoa rfl rfl<|Zoa rfl rfl<|Ze<|Zs<|Zs<|Zr<|Zomi rfl rfl<|X.opP X.wN rfl rfl (X.lss rfl rfl) (fun h5 => ?_) (fun h5 => ?_)
 ·exact absurd h5 Zz
 ·refine Zomf rfl rfl<|Zg (Zdmi rfl) rfl rfl rfl rfl<|X.opP (X.wG rfl rfl rfl) rfl rfl (X.gtr rfl rfl) (fun h8 => ?_) (fun h8 => ?_)
  ·exact absurd h8 Zz
  ·refine Zo (ZdFf rfl rfl) rfl<|Ze<|Zf rfl<|Zk<|Zs<|Zr<|Zomi rfl rfl<|Zo (X.buildB (vs := [(0, .int .i64 rm)]) (cs := #[.int .i64 rm, .slice none 0 0, .slice none 0 0, .slice none 0 0, .slice none 0 0, .bool false, .int .i64 0]) rfl Zl) rfl<|Zc (X.boxE rfl rfl) rfl ?_
   rintro _ w1 ⟨rfl, hB1, hk1, hz1⟩
   refine Zoa rfl rfl<|Zoa rfl rfl<|Ze<|X.ret2 (v2 := (.int .i64 _)) Zf30 Zr30 rfl rfl ?_
   exact ⟨rfl, hB1, hk1⟩
theorem RNew_bad (rm : Int) (w : World) (hrm : ¬ (1 ≤ rm ∧ rm ≤ 1048576)) : Ret Tryz.prog 30 #[.int .i64 rm] w fun r w' => r = .tuple #[.pointer none, .int .i64 1] ∧ Keep w w' := by
 refine X.enter Zf30 rfl Tryz.ntmps30 rfl<|Zs<|Zr<|Zoa rfl rfl<|Zoa rfl rfl<|Ze<|Zs<|Zs<|Zr<|Zomi rfl rfl<|X.opP X.wN rfl rfl (X.lss rfl rfl) (fun h5 => ?_) (fun h5 => ?_)
 ·refine Zomt rfl rfl<|Zp rfl rfl rfl<|Zp rfl rfl rfl<|Zo (ZdTt rfl rfl) rfl<|Ze<|Zt rfl<|Zs<|Zr<|Zoa rfl rfl<|Zoa rfl rfl<|Ze<|X.ret2 (v2 := (.int .i64 _)) Zf30 Zr30 rfl rfl ?_
  exact ⟨rfl, (Keep.refl _)⟩
 ·refine Zomf rfl rfl<|Zg (Zdmi rfl) rfl rfl rfl rfl<|X.opP (X.wG rfl rfl rfl) rfl rfl (X.gtr rfl rfl) (fun h8 => ?_) (fun h8 => ?_)
  ·refine Zo (ZdFt rfl rfl) rfl<|Ze<|Zt rfl<|Zs<|Zr<|Zoa rfl rfl<|Zoa rfl rfl<|Ze<|X.ret2 (v2 := (.int .i64 _)) Zf30 Zr30 rfl rfl ?_
   exact ⟨rfl, (Keep.refl _)⟩
  ·exact absurd ⟨by omega, by omega⟩ hrm
theorem RkB_new {w : World} {x : Nat} {rm : Int} (hB : Blk w x [.int .i64 rm, .slice none 0 0, .slice none 0 0, .slice none 0 0, .slice none 0 0, .bool false, .int .i64 0] 134) : RkB (fun q => if q = x then 1 else 0) w x (.slice none 0 0) (.slice none 0 0) (.slice none 0 0) (.slice none 0 0) [] ⟨rm, [], [], [], [], false, 0⟩ :=
  ⟨hB, Mine.nil _ _ _ _ _ _, Mine.nil _ _ _ _ _ _, Mine.nil _ _ _ _ _ _, Mine.nil _ _ _ _ _ _, if_pos rfl, fun q hq => by
    by_cases e : q = x
    · subst e; exact hB.lt
    · exact absurd (if_neg e) hq, rfl, fun k p f h _ => by cases h⟩
theorem New_bad (rm : Int) (w : World) (hrm : ¬ (1 ≤ rm ∧ rm ≤ 1048576)) : Ret Tryz.prog 12 #[.int .i64 rm] w fun r w' => r = .tuple #[.pointer none, .int .i64 1] ∧ Keep w w' := by
  refine (New_c rm w).mono ?_
  rintro r w' (⟨_, h2, h3⟩ | ⟨h1, _⟩)
  · exact ⟨h2, h3⟩
  · omega
theorem Tie_new (rm : Int) : Tie (DS.mk0 rm [] [] []) ⟨rm, [], [], [], [], false, 0⟩ := ⟨rfl, rfl, rfl, rfl, rfl, fun k f g h _ => (by cases h), DirT.nil, DirT.nil, fun p hp => (by cases hp)⟩
theorem RCreate_r {col : Nat → Nat} {x : Nat} {t : RS} {w : World} (nm : ByteArray) (h : RkR col w x t) (hok : t.Ok) (hmn : t.fs.length < 50000 ∧ t.chs.length < 50000) : Ret Tryz.prog 32 #[ptrV x, .string nm] w fun r w' => r = .int .i64 (t.create nm).1 ∧ ∃ col', RkR col' w' x (t.create nm).2 ∧ Stp col w col' w' := let ⟨_, _, _, _, _, hB⟩ := h; RCreate_c nm w hB hok hmn
theorem RSync_r {col : Nat → Nat} {x : Nat} {t : RS} {w : World} (nm : ByteArray) (h : RkR col w x t) (hok : t.Ok) : Ret Tryz.prog 79 #[ptrV x, .string nm] w fun r w' => r = .int .i64 (t.sync nm).1 ∧ ∃ col', RkR col' w' x (t.sync nm).2 ∧ Stp col w col' w' := let ⟨_, _, _, _, _, hB⟩ := h; RSync_c nm w hB hok
theorem RWrite_r {col : Nat → Nat} {x : Nat} {t : RS} {w : World} {lo hi m cy : Nat} {Ay : Option Addr} {y : List UInt8} (nm : ByteArray) (a : Int) (h : RkR col w x t) (hok : t.Ok) (ha : -9223372036854775808 ≤ a ∧ a ≤ 9223372036854775807) (hy : Sl KB lo hi w Ay m y) (hy0 : ∀ q, lo ≤ q → q < hi → col q = 0 ∧ q < w.heap.size) (hym : m ≤ 1000000000) : Ret Tryz.prog 78 #[ptrV x, .string nm, .int .i64 a, .slice Ay m cy] w fun r w' => r = .int .i64 (t.write nm a y).1 ∧ ∃ col', RkR col' w' x (t.write nm a y).2 ∧ Stp col w col' w' := let ⟨_, _, _, _, _, hB⟩ := h; RWrite_c nm a w hB hok ha hy hy0 hym
theorem Keep.rk {col col' : Nat → Nat} {w w1 w2 : World} (x : Keep w w1) (h : Stp col w1 col' w2) : Stp col w col' w2 := Keep.dk x h
def RokT (t : RS) : Prop := t.Ok ∧ t.fs.length < 50000 ∧ t.chs.length < 50000
theorem Tie.rok {s : DS} {t : RS} (h : Tie s t) (hi : s.Inv) (hsz : s.size ≤ 40000) : RokT t := by
  have h0 : s.fs.length + s.chs.length = s.size := rfl
  have h1 := h.len
  have h2 : t.chs.length = s.chs.length := by rw [h.chs]
  exact ⟨h.ok hi.ok Zz, by omega, by omega⟩
theorem RWr_c {col : Nat → Nat} {x : Nat} {s : DS} {t : RS} (nm : ByteArray) {lo hi : Nat} {A : Option Addr} {n c : Nat} {l : List CD} (w : World) (hs : Sl KC lo hi w A n l) (hhi : hi ≤ w.heap.size) (h : RkR col w x t) (hT : Tie s t) (hi : s.Inv) (hsz : s.size ≤ 30000) (hnc : n ≤ c) (hn : n ≤ 100) (hok : Oks l) : Ret Tryz.prog 33 #[ptrV x, .string nm, .slice A n c] w fun r w' => r = .int .i64 (t.runW nm l).1 ∧ ∃ col', RkR col' w' x (t.runW nm l).2 ∧ Stp col w col' w' := by
 have hk0 := hT.rok hi Zz
 have hT1 := (hT.create hi.ok nm).2
 have hi1 := hi.create nm
 have hk1t := (hT1.rok hi1 (by have := size_create (s := s) nm; omega)).1
 have hT2 := (hT1.write hi1.ok nm 0 (runB l)).2
 have hk2t := (hT2.rok (hi1.write nm 0 _) (by have := size_create (s := s) nm; have := size_write (s := (s.create nm).2) nm 0 (runB l); omega)).1
 refine X.enter Zf33 rfl Tryz.ntmps33 rfl<|Zs<|Zr<|Zoa rfl rfl<|Ze<|Zs<|Zr<|Zom rfl rfl<|Zc (X.callE (RBytes_c w hs hhi hnc hn hok) Tryz.call19 rfl rfl) rfl ?_
 rintro _ w1 ⟨vB, rfl, hMB, hk1⟩
 obtain ⟨AB, cB, rfl, hcB, hsB⟩ := hMB.slF KB_flat w.heap.size (fun _ h => h)
 have hz1' := hk1.size
 refine Zom rfl rfl<|Zo (X.extr rfl rfl) rfl<|Zo (X.extr rfl rfl) rfl<|Zoas rfl rfl<|Zoai rfl rfl<|Ze<|Zs<|Zs<|Zr<|Zomi rfl rfl<|X.opP X.wN rfl rfl (X.neI rfl rfl) (fun h17 => ?_) (fun h17 => ?_)
 ·have hrF : isR l = false := by
    cases hq : isR l with
    | false => rfl
    | true => rw [hq] at h17; exact absurd rfl h17
  refine Ze<|Zt rfl<|Zs<|Zr<|Zomi rfl rfl<|Zoai rfl rfl<|Ze<|X.ret1 (v := (.int .i64 _)) Zf33 Zr33 rfl ?_
  have e : t.runW nm l = (70, t) := by rw [RS.runW, if_pos hrF]
  rw [e]
  exact ⟨by rw [hrF]; rfl, col, h.keep hk1, Stp.keep hk1⟩
 ·have hrT : isR l = true := by
    cases hq : isR l with
    | true => rfl
    | false => rw [hq] at h17; exact absurd (Classical.byContradiction h17) (by decide)
  have hRl : (if isR l = true then runB l else []) = runB l := if_pos hrT
  have hsB0 := hsB
  rw [hRl] at hsB0
  have hrs := (run_sizes hok hrT (by rw [hs.len]; omega)).2.2.2
  refine Ze<|Zf rfl<|Zk<|Zs<|Zr<|Zom rfl rfl<|Zomg rfl rfl<|Zc (X.callE (RCreate_r nm (h.keep hk1) hk0.1 ⟨hk0.2.1, hk0.2.2⟩) Tryz.call32 rfl rfl) rfl ?_
  rintro _ w2 ⟨rfl, col1, hD1, hS1⟩
  have hx2 := hS1.2
  have hx2' := hx2.size
  refine Zoai rfl rfl<|Ze<|Zs<|Zs<|Zr<|Zomi rfl rfl<|X.opP X.wN rfl rfl (X.neI rfl rfl) (fun h23 => ?_) (fun h23 => ?_)
  ·
   refine Ze<|Zt rfl<|Zs<|Zr<|Zomi rfl rfl<|Zoai rfl rfl<|Ze<|X.ret1 (v := (.int .i64 _)) Zf33 Zr33 rfl ?_
   have e : t.runW nm l = t.create nm := by rw [RS.runW, if_neg (by rw [hrT]; decide), if_pos h23]
   rw [e]
   exact ⟨rfl, col1, hD1, Keep.rk hk1 hS1⟩
  ·have hsB' := ((sl_cast hsB hRl).ext hx2 (by intro q g1 g2 g3; exact g3 (Classical.byContradiction fun e => by have := h.lt q e; omega)))
   refine Ze<|Zf rfl<|Zk<|Zs<|Zr<|Zom rfl rfl<|Zomg rfl rfl<|Zoms rfl rfl<|Zc (X.callE (RWrite_r nm 0 hD1 hk1t (by decide) (show Sl KB w.heap.size _ _ AB _ (runB l) from hsB') (fun q g1 g2 => ⟨(hS1.1 q g2).trans (Classical.byContradiction fun e => by have := h.lt q e; omega), by have := hS1.2.size; omega⟩) (by rw [hRl] at *; omega)) Tryz.call78 rfl rfl) rfl ?_
   rintro _ w3 ⟨rfl, col2, hD2, hS2⟩
   have hx3 := hS2.2
   have hx3' := hx3.size
   refine Zoai rfl rfl<|Ze<|Zs<|Zs<|Zr<|Zomi rfl rfl<|X.opP X.wN rfl rfl (X.neI rfl rfl) (fun h30 => ?_) (fun h30 => ?_)
   ·
    refine Ze<|Zt rfl<|Zs<|Zr<|Zomi rfl rfl<|Zoai rfl rfl<|Ze<|X.ret1 (v := (.int .i64 _)) Zf33 Zr33 rfl ?_
    have e : t.runW nm l = (t.create nm).2.write nm 0 (runB l) := by rw [RS.runW, if_neg (by rw [hrT]; decide), if_neg (fun e => e (Classical.byContradiction h23)), if_pos h30]
    rw [e]
    exact ⟨rfl, col2, hD2, Keep.rk hk1 (hS1.trans hS2)⟩
   ·
    refine Ze<|Zf rfl<|Zk<|Zs<|Zr<|Zom rfl rfl<|Zomg rfl rfl<|Zc (X.callE (RSync_r nm hD2 hk2t) Tryz.call79 rfl rfl) rfl ?_
    rintro _ w4 ⟨rfl, col3, hD3, hS3⟩
    have hx4 := hS3.2
    have hx4' := hx4.size
    refine Zoai rfl rfl<|Ze<|X.ret1 (v := (.int .i64 _)) Zf33 Zr33 rfl ?_
    have e : t.runW nm l = ((t.create nm).2.write nm 0 (runB l)).2.sync nm := by rw [RS.runW, if_neg (by rw [hrT]; decide), if_neg (fun e => e (Classical.byContradiction h23)), if_neg (fun e => e (Classical.byContradiction h30))]
    rw [e]
    exact ⟨rfl, col3, hD3, Keep.rk hk1 (hS1.trans (hS2.trans hS3))⟩
section
variable {g b x m m' : Nat} {ca cb ca' cb' : Nat → Nat} {w w1 w2 : World} {r : Int} {s s1 : DS} {t t1 : RS}
theorem size_runW (nm : ByteArray) (l : List CD) : (s.runW nm l).2.size ≤ s.size + 6 := by
  have h1 := size_create (s := s) nm
  have h2 := size_write (s := (s.create nm).2) nm 0 (runB l)
  have h3 := size_sync (s := ((s.create nm).2.write nm 0 (runB l)).2) nm
  rw [DS.runW]
  repeat' split
  all_goals (first | omega | (simp only []; omega))
theorem DS.Fits.runW (h : s.Fits r) (hi : s.Inv) (nm : ByteArray) (l : List CD) : (s.runW nm l).2.Fits r := by
  have h1 := h.create hi nm
  have i1 := hi.create nm
  have h2 := h1.write i1 nm 0 (runB l)
  have i2 := i1.write nm 0 (runB l)
  have h3 := h2.sync i2 nm
  rw [DS.runW]
  repeat' split
  all_goals assumption
theorem runWT1_c (nm : ByteArray) {lo hi : Nat} {A : Option Addr} {n c : Nat} {l : List CD} (h : Tw g ca cb w b x m r s t) (hm : m ≤ 30000) (hnm : nm.size ≤ 9223372036854775807) (hs : Sl KC lo hi w A n l) (hhi : hi ≤ w.heap.size) (hnc : n ≤ c) (hn : n ≤ 100) (hok : Oks l) (hTb : TabOk w) : Ret Tryz.prog 13 #[ptrV b, .string nm, .slice A n c] w fun v w1 => v = .int .i64 (s.runW nm l).1 ∧ ∃ ca', Md g ca ca' cb w w1 b x m r s (s.runW nm l).2 t ∧ Ext (fun q => ca q ≠ 0) w w1 :=
  (rWrite_c nm w hs hhi h.D h.inv hnm (by have := h.sz; omega) hnc hn hok hTb).mono fun v w1 ⟨h1, ca', h2, h3⟩ => ⟨h1, ca', ⟨h, h2, h3⟩, h3.2⟩
theorem runWT2_c (nm : ByteArray) {lo hi : Nat} {A : Option Addr} {n c : Nat} {l : List CD} (h : Md g ca ca' cb w w1 b x m r s (s.runW nm l).2 t) (hm : m ≤ 30000) (hs : Sl KC lo hi w1 A n l) (hhi : hi ≤ w1.heap.size) (hnc : n ≤ c) (hn : n ≤ 100) (hok : Oks l) : Ret Tryz.prog 33 #[ptrV x, .string nm, .slice A n c] w1 fun v w2 => v = .int .i64 (s.runW nm l).1 ∧ ∃ cb', Tw g ca' cb' w2 b x (m + 6) r (s.runW nm l).2 (t.runW nm l).2 ∧ (∀ q, q < w1.heap.size → cb' q = cb q) ∧ Ext (fun q => cb q ≠ 0) w1 w2 := by
  have hb := h.T.tie.runW h.T.inv nm l
  refine (RWr_c nm w1 hs hhi h.X h.T.tie h.T.inv (by have := h.T.sz; omega) hnc hn hok).mono ?_
  rintro v w2 ⟨rfl, cb', h2, h3⟩
  exact ⟨by rw [hb.1], cb', h.next h2 h3 (h.T.inv.runW nm l) (h.T.fit.runW h.T.inv nm l) hb.2 (by have := size_runW (s := s) nm l; have := h.T.sz; omega), h3.1, h3.2⟩
theorem Tw_new {c0 : Nat → Nat} {rm : Int} (hD : DkR c0 w b (DS.mk0 rm [] [] [])) (hc : ∀ q, c0 q ≠ 0 → g ≤ q) (hB : Blk w x [.int .i64 rm, .slice none 0 0, .slice none 0 0, .slice none 0 0, .slice none 0 0, .bool false, .int .i64 0] 134) (hx : c0 x = 0) (hg : g ≤ x) (hrm : 1 ≤ rm ∧ rm ≤ 1048576) : Tw g c0 (fun q => if q = x then 1 else 0) w b x 0 rm (DS.mk0 rm [] [] []) ⟨rm, [], [], [], [], false, 0⟩ :=
  ⟨hD, (RkB_new hB).r, fun q hq => if_neg (by rintro rfl; exact hq hx), Inv_new hrm, Fits_new hrm.1, Tie_new rm, Nat.le_refl _, fun q hq => ⟨Classical.byContradiction fun e => by have := hc q e; omega, if_neg Zz⟩, by have := hB.lt; omega⟩
end
theorem NewP_c (rm : Int) (w : World) : Ret Tryz.prog 12 #[.int .i64 rm] w fun r w' => ∃ (p : Option Addr) (e : Int), r = .tuple #[.pointer p, .int .i64 e] ∧ (¬ (1 ≤ rm ∧ rm ≤ 1048576) ∧ p = none ∧ e = 1 ∨ (1 ≤ rm ∧ rm ≤ 1048576) ∧ e = 0 ∧ ∃ b c0, p = some ⟨b, 0, none⟩ ∧ DkR c0 w' b (DS.mk0 rm [] [] []) ∧ (∀ q, c0 q ≠ 0 → w.heap.size ≤ q)) ∧ Keep w w' := by
  rcases Classical.em (1 ≤ rm ∧ rm ≤ 1048576) with h | h
  · exact (New_ok rm w h).mono fun r w' ⟨b, bf, bd, bx, bl, c0, e, hD, hc, hk⟩ => ⟨_, _, e, .inr ⟨h, rfl, b, c0, rfl, hD.r, hc⟩, hk⟩
  · exact (New_bad rm w h).mono fun r w' ⟨e, hk⟩ => ⟨_, _, e, .inl ⟨h, rfl, rfl⟩, hk⟩
theorem RNewP_c (rm : Int) (w : World) : Ret Tryz.prog 30 #[.int .i64 rm] w fun r w' => ∃ (p : Option Addr) (e : Int), r = .tuple #[.pointer p, .int .i64 e] ∧ (¬ (1 ≤ rm ∧ rm ≤ 1048576) ∧ p = none ∧ e = 1 ∨ (1 ≤ rm ∧ rm ≤ 1048576) ∧ e = 0 ∧ p = some ⟨w.heap.size, 0, none⟩ ∧ Blk w' w.heap.size [.int .i64 rm, .slice none 0 0, .slice none 0 0, .slice none 0 0, .slice none 0 0, .bool false, .int .i64 0] 134) ∧ Keep w w' := by
  rcases Classical.em (1 ≤ rm ∧ rm ≤ 1048576) with h | h
  · exact (RNew_c rm w h).mono fun r w' ⟨e, hB, hk⟩ => ⟨_, _, e, .inr ⟨h, rfl, rfl, hB⟩, hk⟩
  · exact (RNew_bad rm w h).mono fun r w' ⟨e, hk⟩ => ⟨_, _, e, .inl ⟨h, rfl, rfl⟩, hk⟩
theorem ls_create (s : DS) (nm : ByteArray) : (s.create nm).2.ls = s.ls := by
  rw [DS.create]
  repeat' split
  all_goals rfl
theorem spots_nil {s : DS} (h : s.ls = []) (k : Int) : s.spots k = [] := by
  unfold DS.spots
  rw [h]
  unfold spotL
  simp [asc]
theorem looseL_nil {s : DS} (h : s.ls = []) : ∀ l : List Int, (looseL s l).1 = 0
  | [] => rfl
  | k :: l => by
    rw [looseL]
    simp only [looseL_nil h l, spots_nil h, List.length_nil]
theorem loose_nil {s : DS} (h : s.ls = []) : s.loose.2.1 = 0 := looseL_nil h _
theorem RunFiles_w (w : World) (hTb : TabOk w) (room : Int) (nm ot : ByteArray) (hnm : nm.size ≤ 9223372036854775807) (hot : ot.size ≤ 9223372036854775807) (A : Option Addr) (n c : Nat) (l : List CD) (hnc : n ≤ c) (hs : Sl KC 0 w.heap.size w A n l) : Ret Tryz.prog 8 #[.int .i64 room, .string nm, .string ot, .slice A n c] w fun r w' => r = .bool true ∧ Keep w w' := by
 have htl := hTb.lt
 refine X.enter Zf8 rfl Tryz.ntmps8 rfl<|Zs<|Zr<|Zoa rfl rfl<|Ze<|Zs<|Zr<|Zom rfl rfl<|Zc (X.callE (few_c _ hs (Nat.le_refl _) hnc) Tryz.call9 rfl rfl) rfl ?_
 rintro _ w1 ⟨vF, LF_, mF, SF, GF, rfl, hNF, hk1⟩
 obtain ⟨Al, cl, rfl, hcl, hsl⟩ := nrow_kc hNF
 have hll := hsl.len
 have hl60 := few_len l
 have hOks : Oks (fewL l) := kc_ok hsl
 have hk1z := hk1.size
 obtain ⟨w0, hw0⟩ : ∃ w0, w0 = w1 := ⟨_, rfl⟩
 subst hw0
 have hk1' := hk1.size
 refine Zoa rfl rfl<|Ze<|Zs ?_
 refine X.joinL (σ := Int) (fun s => [(0, .int .i64 s), (1, .string nm), (2, .string ot), (3, .slice Al (fewL l).length cl)]) (fun s => True) (fun hjoin => ?_) ?_
 ·refine Zs<|Zr<|Zomi rfl rfl<|X.opP X.wN rfl rfl (X.gtr rfl rfl) (fun h29 => ?_) (fun h29 => ?_)
  ·refine Zomt rfl rfl<|Zg (Zdmi rfl) rfl rfl rfl rfl<|X.opP (X.wG rfl rfl rfl) rfl rfl (X.leq rfl rfl) (fun h32 => ?_) (fun h32 => ?_)
   ·refine Zo (ZdTt rfl rfl) rfl<|Ze<|Zt rfl<|Zr<|Zoa rfl rfl<|Ze ?_
    refine hjoin 300 _ ⟨rfl, rfl, rfl, rfl, trivial⟩ trivial
   ·refine Zo (ZdTf rfl rfl) rfl<|Ze<|Zf rfl<|Zk ?_
    refine hjoin room _ ⟨rfl, rfl, rfl, rfl, trivial⟩ trivial
  ·refine Zomf rfl rfl<|Zp rfl rfl rfl<|Zp rfl rfl rfl<|Zo (ZdFf rfl rfl) rfl<|Ze<|Zf rfl<|Zk ?_
   refine hjoin room _ ⟨rfl, rfl, rfl, rfl, trivial⟩ trivial
 rintro rm b0 hI0
 refine Zs<|Zr<|Zomi rfl rfl<|Zc (X.callE (NewP_c rm _) Tryz.call12 rfl rfl) rfl ?_
 rintro _ w2 ⟨p1, e1, rfl, hN1, hk2⟩
 have hk2' := hk2.size
 refine Zom rfl rfl<|Zo (X.extr rfl rfl) rfl<|Zo (X.extr rfl rfl) rfl<|Zoa rfl rfl<|Zoai rfl rfl<|Ze<|Zs<|Zr<|Zomi rfl rfl<|Zc (X.callE (RNewP_c rm _) Tryz.call30 rfl rfl) rfl ?_
 rintro _ w3 ⟨p2, e2, rfl, hN2, hk3⟩
 have hk3' := hk3.size
 refine Zom rfl rfl<|Zo (X.extr rfl rfl) rfl<|Zo (X.extr rfl rfl) rfl<|Zoa rfl rfl<|Zoai rfl rfl<|Ze<|Zs<|Zs<|Zr<|Zomi rfl rfl<|Zomi rfl rfl<|X.opP X.wN rfl rfl (X.neI rfl rfl) (fun h46 => ?_) (fun h46 => ?_)
 ·exfalso
  rcases hN1 with ⟨u1, _, u3⟩ | ⟨u1, u3, _⟩ <;> rcases hN2 with ⟨v1, _, v3⟩ | ⟨v1, v3, _⟩ <;> omega
 ·refine Zomf rfl rfl<|Zg (X.move rfl) rfl rfl rfl rfl<|Zg (X.eqPtrN (A := p2) Zu79 rfl rfl) rfl rfl rfl rfl<|Zo (ZdFo rfl rfl) rfl<|Zomo rfl rfl<|X.forkO 51 rfl (fun h51 => ?_) (fun h51 => ?_)
  ·have hbad : p1 = none ∧ e1 = 1 ∧ p2 = none ∧ e2 = 1 := by
     rcases hN2 with ⟨v1, v2, v3⟩ | ⟨v1, v2, v3, v4⟩
     ·rcases hN1 with ⟨u1, u2, u3⟩ | ⟨u1, _⟩
      ·exact ⟨u2, u3, v2, v3⟩
      ·exact absurd u1 v1
     ·rw [v3] at h51; cases h51
   obtain ⟨rfl, rfl, rfl, rfl⟩ := hbad
   refine Zp rfl rfl rfl<|Zp rfl rfl rfl<|Zo (ZdTt rfl rfl) rfl<|Ze<|Zt rfl<|Zs<|Zr<|Zomi rfl rfl<|Zomi rfl rfl<|X.opP X.wN rfl rfl (X.eqI rfl rfl) (fun h57 => ?_) (fun h57 => ?_)
   ·refine Zomt rfl rfl<|Zg (X.move rfl) rfl rfl rfl rfl<|Zg (X.eqPtrN (A := none) Zu26 rfl rfl) rfl rfl rfl rfl<|Zg (X.move rfl) rfl rfl rfl rfl<|Zg (X.eqPtrN (A := none) Zu79 rfl rfl) rfl rfl rfl rfl<|Zg (X.eqB Tryz.underlying4 rfl rfl) rfl rfl rfl rfl<|Zo (ZdTt rfl rfl) rfl<|Zomt rfl rfl<|X.opE (X.wG rfl rfl rfl) rfl (X.callE (ralive_c _ (hTb.keep ((hk1.trans hk2).trans hk3))) Zc11 rfl rfl) ?_
    rintro _ w4 ⟨rfl, hk4⟩
    have hk4' := hk4.size
    refine Zo (ZdTo rfl rfl) rfl<|Zoao rfl rfl<|Ze<|X.ret1 (v := (.bool _)) Zf8 Zr8 rfl ?_
    exact ⟨rfl, (((hk1.trans hk2).trans hk3).trans hk4)⟩
   ·exact absurd rfl h57
  ·have hgood : (1 ≤ rm ∧ rm ≤ 1048576) ∧ e1 = 0 ∧ e2 = 0 := by
     rcases hN2 with ⟨v1, v2, v3⟩ | ⟨v1, v2, v3, v4⟩
     ·rw [v2] at h51; cases h51
     ·rcases hN1 with ⟨u1, _⟩ | ⟨_, u2, _⟩
      ·exact absurd v1 u1
      ·exact ⟨v1, u2, v2⟩
   obtain ⟨hrm, rfl, rfl⟩ := hgood
   obtain ⟨b, c0, rfl, hD0, hc0⟩ := (hN1.resolve_left (fun e => e.1 hrm)).2.2
   obtain ⟨_, _, rfl, hXB⟩ := hN2.resolve_left (fun e => e.1 hrm)
   clear hN1 hN2
   have hD0l := hD0.lt
   have T0 : Tw w0.heap.size c0 _ w3 b w2.heap.size 0 rm _ _ := Tw_new (hD0.keep hk3) hc0 hXB (Classical.byContradiction fun e => by have := hD0l _ e; omega) Zz hrm
   refine Zg (X.move rfl) rfl rfl rfl rfl<|Zg (X.eqPtrN (A := some _) Zu26 rfl rfl) rfl rfl rfl rfl<|Zo (ZdFf rfl rfl) rfl<|Ze<|Zf rfl<|Zk<|Zs<|Zr<|Zom rfl rfl<|Zomg rfl rfl<|Zc (X.callE (createT1_c T0 (by decide) ot hot) Tryz.call31 rfl rfl) rfl ?_
   rintro _ w5 ⟨rfl, ca1, M1, hx5⟩
   have hx5' := hx5.size
   refine Ze<|Zs<|Zr<|Zom rfl rfl<|Zomg rfl rfl<|Zc (X.callE (createT2_c ot M1 (by decide)) Tryz.call32 rfl rfl) rfl ?_
   rintro _ w6 ⟨rfl, cb1, T1, _, hx6⟩
   have hx6' := hx6.size
   refine Ze<|Zs<|Zr<|Zom rfl rfl<|Zomg rfl rfl<|Zom rfl rfl<|Zc (X.callE (runWT1_c nm T1 (by decide) hnm (((hsl.keep (hk2.trans hk3)).ext hx5 zq1).ext hx6 zq1) Zz hcl Zz hOks (((hTb.keep ((hk1.trans hk2).trans hk3)).ext hx5 zq1).ext hx6 zq1)) Tryz.call13 rfl rfl) rfl ?_
   rintro _ w7 ⟨rfl, ca2, M2, hx7⟩
   have hx7' := hx7.size
   refine Zoai rfl rfl<|Ze<|Zs<|Zr<|Zom rfl rfl<|Zomg rfl rfl<|Zom rfl rfl<|Zc (X.callE (runWT2_c nm M2 (by decide) ((((hsl.keep (hk2.trans hk3)).ext hx5 zq1).ext hx6 zq1).ext hx7 zq1) Zz hcl Zz hOks) Tryz.call33 rfl rfl) rfl ?_
   rintro _ w8 ⟨rfl, cb2, T2, _, hx8⟩
   have hx8' := hx8.size
   refine Zoai rfl rfl<|Ze<|Zs<|Zs<|Zr<|Zomi rfl rfl<|Zomi rfl rfl<|X.opP X.wN rfl rfl (X.neI rfl rfl) (fun h84 => ?_) (fun h84 => ?_)
   ·exact absurd rfl h84
   ·refine Ze<|Zf rfl<|Zk<|Zs<|Zs<|Zr<|Zomi rfl rfl<|X.opP X.wN rfl rfl (X.neI rfl rfl) (fun h86 => ?_) (fun h86 => ?_)
    ·refine Ze<|Zt rfl<|Zs<|Zr<|Zc (X.callE (ralive_c _ (((((hTb.keep ((hk1.trans hk2).trans hk3)).ext hx5 zq1).ext hx6 zq1).ext hx7 zq1).ext hx8 zq1)) Zc11 rfl rfl) rfl ?_
     rintro _ w9 ⟨rfl, hk9⟩
     have hk9' := hk9.size
     refine Zoao rfl rfl<|Ze<|X.ret1 (v := (.bool _)) Zf8 Zr8 rfl ?_
     exact ⟨rfl, (((((((hk1.trans hk2).trans hk3).step hx5 zq7).step hx6 zq7).step hx7 zq7).step hx8 zq7).trans hk9)⟩
    ·have h0 : (((DS.mk0 rm [] [] []).create ot).2.runW nm (fewL l)).1 = 0 := Classical.byContradiction h86
     obtain ⟨hR, _, hlsB⟩ := runW_back h0
     have hls2 := hlsB (ls_create _ _)
     have g : Good (fewL l) := ⟨hOks, hR, by omega⟩
     have hLn := lvs_len (pgs (fewL l)) 0
     have hpn := pgs_len (fewL l)
     refine Ze<|Zf rfl<|Zk<|Zs<|Zr<|Zom rfl rfl<|Zomg rfl rfl<|Zc (X.callE (rOpen_run T2.D T2.inv.ok (onD_of h0) g (((((hTb.keep ((hk1.trans hk2).trans hk3)).ext hx5 zq1).ext hx6 zq1).ext hx7 zq1).ext hx8 zq1)) Tryz.call14 rfl rfl) rfl ?_
     rintro _ w10 ⟨⟨r, rfl, hr1, hr2, hRO⟩, hk10⟩
     have hk10' := hk10.size
     refine Zom rfl rfl<|Zo (X.extr rfl rfl) rfl<|Zo (X.extr rfl rfl) rfl<|Zoa rfl rfl<|Zoai rfl rfl<|Ze<|Zs<|Zs<|Zr<|Zomi rfl rfl<|Zo (X.neI rfl rfl) rfl<|Zomf rfl rfl<|Zg (X.move rfl) rfl rfl rfl rfl<|Zg (X.eqPtrN (A := some _) Tryz.underlying31 rfl rfl) rfl rfl rfl rfl<|Zo (ZdFf rfl rfl) rfl<|Ze<|Zf rfl<|Zk<|Zs<|Zr<|Zom rfl rfl<|Zc (X.callE (Len_c _ hRO) Tryz.call25 rfl rfl) rfl ?_
     rintro _ w11 ⟨rfl, hk11⟩
     have hk11' := hk11.size
     refine Zom rfl rfl<|Zo (X.extr rfl rfl) rfl<|Zo (X.extr rfl rfl) rfl<|Zoai rfl rfl<|Zoai rfl rfl<|Ze<|Zs<|Zs<|Zr<|Zomi rfl rfl<|Zom rfl rfl<|Zo (X.lenSl Zu22 rfl) rfl<|X.opP X.wN rfl rfl (X.neI rfl rfl) (fun h108 => ?_) (fun h108 => ?_)
     ·exact absurd rfl h108
     ·refine Ze<|Zf rfl<|Zk<|Zs<|Zr<|Zoa rfl rfl<|Ze<|Zs<|Zs<|Zr<|Zoa rfl rfl<|Ze<|Zb ?_
      have hKI := ((((((((hk1.trans hk2).trans hk3).step hx5 zq7).step hx6 zq7).step hx7 zq7).step hx8 zq7).trans hk10).trans hk11)
      have hwI0 : ∃ wI, wI = w11 := ⟨_, rfl⟩
      obtain ⟨wI, hwI⟩ := hwI0
      have hTI := ((T2.keep hk10).keep hk11)
      have hROI := (hRO.keep hk11)
      have hTbI := ((((((hTb.keep ((hk1.trans hk2).trans hk3)).ext hx5 zq1).ext hx6 zq1).ext hx7 zq1).ext hx8 zq1).keep (hk10.trans hk11))
      have hslI := ((((((hsl.keep (hk2.trans hk3)).ext hx5 zq1).ext hx6 zq1).ext hx7 zq1).ext hx8 zq1).keep (hk10.trans hk11))
      have hpIr : w10.heap.size ≤ wI.heap.size := by rw [hwI]; omega
      have hw0I : w0.heap.size ≤ wI.heap.size := by rw [hwI]; omega
      rw [← hwI] at hKI hTI hROI hTbI hslI
      have hLI := hKI.size
      refine X.loopL (σ := Nat × Value) (fun s => [(3, .slice Al (fewL l).length cl), (9, ptrV b), (15, ptrV r), (17, .int .i64 (((lvs 0 (pgs (fewL l))).length : Nat) : Int)), (19, s.2), (20, .int .i64 (s.1 : Int))]) (fun s w' => s.1 ≤ (pgs (fewL l)).length ∧ Keep w w' ∧ Ext (fun k => wI.heap.size ≤ k) wI w' ∧ ∃ L S G, NRow NdCt 40 wI.heap.size w'.heap.size S G w' s.2 L (((pgs (fewL l)).take s.1).flatten)) (fun s => (pgs (fewL l)).length - s.1) (0, .slice none 0 0) ⟨rfl, rfl, rfl, rfl, rfl, rfl, trivial⟩ ⟨Nat.zero_le _, ((((((((hk1.trans hk2).trans hk3).step hx5 zq7).step hx6 zq7).step hx7 zq7).step hx8 zq7).trans hk10).trans hk11), by rw [hwI]; exact Ext.refl _ _, [], _, _, by rw [hwI]; exact NRow.nil _ _ _ _ (Nat.le_refl _)⟩ ?_
      rintro ⟨i, v⟩ bb w1 ⟨hi0, hk, hxI, L, S, G, hNR⟩ hback
      dsimp only at hi0 hNR
      have hk0 := hk.size
      have hxI0 := hxI.size
      have hTi := hTI.ext hxI (fun q hq g3 => by have g3 : _ ≤ q := g3; exact hq.elim (fun e => by have := hTI.D.lt q e; omega) (fun e => by have := RkR.lt hTI.X q e; omega))
      have hROi := hROI.ext hxI (fun g3 => by have g3 : _ ≤ r := g3; omega) (fun q g1 g2 g3 => by have g3 : _ ≤ q := g3; omega)
      have hTbi := hTbI.ext hxI (fun g3 => by have g3 : _ ≤ _ := g3; omega)
      have hsli := hslI.ext hxI (fun q g1 g2 g3 => by have g3 : _ ≤ q := g3; omega)
      have hfl : (((pgs (fewL l)).take i).flatten).length ≤ (fewL l).length := by have h9 := congrArg List.length (pgs_flat (fewL l)); have h8 := List.take_append_drop i (pgs (fewL l)); rw [← h8, List.flatten_append, List.length_append] at h9; rw [← h9]; omega
      refine Zs<|Zs<|Zr<|Zomi rfl rfl<|Zomi rfl rfl<|X.opP X.wN rfl rfl (X.lss rfl rfl) (fun h111 => ?_) (fun h111 => ?_)
      ·obtain ⟨p, hp⟩ : ∃ p, (pgs (fewL l))[i]? = some p := ⟨_, List.getElem?_eq_getElem Zz⟩
       have hpm := List.mem_of_getElem? hp
       have hp1 := pgs_plen hpm
       have hpp := List.length_pos_iff.2 (pgs_ne hpm)
       refine Ze<|Zt rfl<|Zk<|Zs<|Zb<|Zs<|Zr<|Zom rfl rfl<|Zomi rfl rfl<|Zc (X.callE (Page_run (j := i) (p := p) hROi Zz hTi.D T2.inv.ok (onD_of h0) g hTbi hp) Tryz.call15 rfl rfl) rfl ?_
       rintro _ w12 ⟨⟨vp, Lp, mp, Sp, Gp, rfl, hNp⟩, hk12⟩
       obtain ⟨Ap, cp, rfl, hcp, hsp, hpA⟩ := nrow_cts hNp
       have hk12' := hk12.size
       refine Zom rfl rfl<|Zo (X.extr rfl rfl) rfl<|Zo (X.extr rfl rfl) rfl<|Zoas rfl rfl<|Zoai rfl rfl<|Ze<|Zs<|Zs<|Zr<|Zomi rfl rfl<|Zo (X.neI rfl rfl) rfl<|Zomf rfl rfl<|Zg (Zdms rfl) rfl rfl rfl rfl<|Zg (X.lenSl Zu22 rfl) rfl rfl rfl rfl<|X.opP (X.wG rfl rfl rfl) rfl rfl (X.eqI rfl rfl) (fun h125 => ?_) (fun h125 => ?_)
       ·omega
       ·refine Zo (ZdFf rfl rfl) rfl<|Ze<|Zf rfl<|Zk<|Zr<|Zom rfl rfl<|Zoms rfl rfl<|Zc (NRow.apps (hNR.keep hk12) hsp (hpA) Zz Zz Zz Zu22 ECt rfl rfl Zz) rfl ?_
        rintro _ w13 ⟨Aq, cq, S', G', rfl, hNn, hx13⟩
        have hx13' := hx13.size
        refine Zoa rfl rfl<|Ze<|Zi<|Zr<|Zomi rfl rfl<|Zo (X.add rfl rfl (X.w_i64 Zz)) rfl<|Zoai rfl rfl<|Ze ?_
        refine hback (i + 1, _) _ _ ⟨rfl, rfl, rfl, rfl, rfl, rfl, trivial⟩ ⟨by omega, ((hk.trans hk12).step hx13 zq7), (Ext.andThen (Ext.andThen hxI hk12 (by intro q h1 h2; first | exact (h2 : False).elim | (have h2 : q = _ := h2; show _ ≤ q; omega) | (have h2 : _ ≤ q ∧ _ := h2; show _ ≤ q; omega))) hx13 (by intro q h1 h2; first | exact (h2 : False).elim | (have h2 : q = _ := h2; show _ ≤ q; omega) | (have h2 : _ ≤ q ∧ _ := h2; show _ ≤ q; omega))), _, _, _, by have h9 := (hNn).all; rw [List.take_add_one, hp, List.flatten_append]; simpa using h9⟩ (by (try dsimp only); omega)
      ·have hin : i = (pgs (fewL l)).length := by omega
       subst hin
       rw [List.take_of_length_le (Nat.le_refl _), pgs_flat] at hNR
       obtain ⟨Av, cv, rfl, hcv, hkc⟩ := nrow_kc hNR
       refine Ze<|Zf rfl<|Zx rfl<|Zs<|Zr<|Zom rfl rfl<|Zc (X.callE (looseR_c hTi.D T2.inv.ok (by have := T2.sz; omega)) Tryz.call34 rfl rfl) rfl ?_
       rintro _ w14 ⟨rfl, hk14⟩
       have hk14' := hk14.size
       refine Zom rfl rfl<|Zo (X.extr rfl rfl) rfl<|Zo (X.extr rfl rfl) rfl<|Zo (X.extr rfl rfl) rfl<|Zoai rfl rfl<|Zoai rfl rfl<|Zoai rfl rfl<|Ze<|Zs<|Zr<|Zoms rfl rfl<|Zom rfl rfl<|Zc (X.callE (RSame_c _ (hkc.keep hk14) (hsli.keep hk14)) Tryz.call23 rfl rfl) rfl ?_
       rintro _ w15 ⟨rfl, hk15⟩
       have hk15' := hk15.size
       refine Zomo rfl rfl<|X.forkO 139 rfl (fun h139 => ?_) (fun h139 => ?_)
       ·refine Zg (Zdmi rfl) rfl rfl rfl rfl<|X.opP (X.wG rfl rfl rfl) rfl rfl (X.eqI rfl rfl) (fun h141 => ?_) (fun h141 => ?_)
        ·refine Zo (ZdTt rfl rfl) rfl<|Zomt rfl rfl<|X.opE (X.wG rfl rfl rfl) rfl (X.callE (ralive_c _ ((hTbi.keep hk14).keep hk15)) Zc11 rfl rfl) ?_
         rintro _ w16 ⟨rfl, hk16⟩
         have hk16' := hk16.size
         refine Zo (ZdTo rfl rfl) rfl<|Zoao rfl rfl<|Ze<|X.ret1 (v := (.bool _)) Zf8 Zr8 rfl ?_
         exact ⟨rfl, (((hk.trans hk14).trans hk15).trans hk16)⟩
        ·exact absurd (by rw [loose_nil hls2]; rfl) h141
       ·exact absurd h139 (by simp)
theorem RunFiles_c (w : World) (hTb : TabOk w) (room : Int) (_ : okI room) (nm : ByteArray) (hnm : nm.size ≤ 9223372036854775807) (ot : ByteArray) (hot : ot.size ≤ 9223372036854775807) (A : Option Addr) (n c : Nat) (l : List CD) (hnc : n ≤ c) (hs : Sl KC 0 w.heap.size w A n l) : Ret Tryz.prog 8 #[.int .i64 room, .string nm, .string ot, .slice A n c] w fun r w' => r = .bool true ∧ Keep w w' := RunFiles_w w hTb room nm ot hnm hot A n c l hnc hs
end Go.Proofs.YtbljooblpfdbiaaGreatDoor
