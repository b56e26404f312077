/- Texts that the proof of CacheSame stands on, part 16. -/
import Derived.Test.YtjjhddjllpihaaaGreatDoorProg
import Derived.Test.YtjjhddjllpihaaaGreatDoorBunCacheSame15
set_option maxHeartbeats 4000000
set_option maxRecDepth 100000
open Go.Proofs.Tryz renaming call12 → Zc12, call13 → Zc13, call14 → Zc14, call26 → Zc26, call27 → Zc27, call28 → Zc28, call38 → Zc38, call39 → Zc39, func10 → Zf10, func112 → Zf112, func12 → Zf12, func13 → Zf13, func14 → Zf14, func26 → Zf26, func29 → Zf29, func3 → Zf3, func38 → Zf38, func39 → Zf39, isAgg101 → Zi101, isAgg2 → Zi2, isAgg3 → Zi3, isAgg58 → Zi58, isAgg69 → Zi69, isAgg9 → Zi9, isAgg90 → Zi90, ntmps38 → Zn38, results10 → Zr10, results112 → Zr112, results12 → Zr12, results13 → Zr13, results14 → Zr14, results26 → Zr26, results38 → Zr38, sizeOf101 → Zs101, sizeOf103 → Zs103, sizeOf2 → Zs2, sizeOf3 → Zs3, sizeOf58 → Zs58, sizeOf61 → Zs61, sizeOf69 → Zs69, sizeOf9 → Zs9, sizeOf90 → Zs90, sizeOf92 → Zs92, underlying100 → Zu100, underlying101 → Zu101, underlying103 → Zu103, underlying105 → Zu105, underlying109 → Zu109, underlying22 → Zu22, underlying29 → Zu29, underlying3 → Zu3, underlying34 → Zu34, underlying5 → Zu5, underlying58 → Zu58, underlying61 → Zu61, underlying69 → Zu69, underlying90 → Zu90, underlying92 → Zu92, zeroValue69 → Zv69, zeroValue92 → Zv92
set_option linter.unusedSimpArgs false
set_option linter.unusedVariables false
namespace Go.Proofs.YtjjhddjllpihaaaGreatDoor
open Go Go.Proofs.YtjjhddjllpihaaaGreatDoor.X
theorem DeleteK_c {S : Nat → Prop} {A : Option Addr} {n c : Nat} {xs : List PKEY} (i : Nat) (w : World) (hM : Mine KPk 69 S 0 0 w (.slice A n c) xs) (hi : i < n) (hn : n ≤ 1000000) : Ret Tryz.prog 86 #[.slice A n c, .int .i64 (i : Int), .int .i64 ((i + 1 : Nat) : Int)] w fun r w' => r = .slice A (n - 1) c ∧ Mine KPk 69 S 0 0 w' (.slice A (n - 1) c) (xs.eraseIdx i) ∧ Ext S w w' := by
 rcases hM.full (show 0 < KPk.sz by decide) with ⟨h0, _⟩ | ⟨b, ch, rfl, hSb, hF⟩
 ·omega
 have hs0 : Sl KPk b (b + 1) w (some ⟨b, 0, none⟩) n xs := hF.sl KPk_flat 0 (Nat.zero_le _)
 have hcn := hF.le
 have hcl := hF.len
 have hxl := hF.xlen
 refine X.enter Tryz.func86 rfl Tryz.ntmps86 rfl<|Zs<|Zr<|Zoa rfl rfl<|Ze<|Zs<|Zr<|Zom rfl rfl<|Zomi rfl rfl<|Zomi rfl rfl<|Zom rfl rfl<|Zo (X.lenSl Zu58 rfl) rfl<|Zo (X.cut3E Zu58 Zs69 rfl rfl rfl rfl ⟨by omega, by omega, by omega, by omega⟩) rfl<|Ze<|Zs<|Zs<|Zr<|Zomi rfl rfl<|Zomi rfl rfl<|X.opP X.wN rfl rfl (X.eqI rfl rfl) (fun h16 => ?_) (fun h16 => ?_)
 ·exact absurd h16 Zz
 ·refine Ze<|Zf rfl<|Zk<|Zs<|Zr<|Zom rfl rfl<|Zo (X.lenSl Zu58 rfl) rfl<|Zoai rfl rfl<|Ze<|Zs<|X.regionD (fun k => k = b) 7 Zl Zl (fun w1 hk1 hz1 => ?_)
  refine ZDc 0 rfl Zl (X.move rfl)<|ZDc 1 rfl Zl (Zdmi rfl)<|ZDc 2 rfl Zl (X.cutHB Zu58 Zs69 rfl rfl Zz)<|ZDc 3 rfl Zl (X.move rfl)<|ZDc 4 rfl Zl (Zdmi rfl)<|ZDc 5 rfl Zl (X.cutL Zu58 Zs69 rfl rfl ⟨by omega, by omega⟩)<|X.dE (i := 6) Zl rfl (X.dwN rfl) (X.appInE (K := KPk) (i := i) (m := n - (i + 1)) (c := c) KPk_flat Zu58 Zs69 rfl rfl Zz (hF.ext KPk_flat hk1 (fun h => h)).blk hF.chk hF.len ((hs0.keep hk1).drop (i + 1) c Zz Zz)) (by rintro _ w2 ⟨z2, rfl, hz2, hB2, hC2, hx2, hs2⟩ _; exact hx2) ?_
  rintro _ w2 ⟨z2, rfl, hz2, hB2, hC2, hx2, hs2⟩
  refine X.dStep (i := 7) Zl rfl (X.dwN rfl) (X.assign rfl) (fun h => absurd h (by decide))<|Zdend Zl<|Zs<|Zr<|Zom rfl rfl<|Zom rfl rfl ?_
  have hzl : z2.length = n - (i + 1) := by rw [← hz2.len, List.length_drop, hxl]
  have hlen1 : (ch.take i ++ z2 ++ ch.drop (i + (n - (i + 1)))).length = c := by simp only [List.length_append, List.length_take, List.length_drop, hzl, hcl]; omega
  refine Zo (X.lenSl Zu58 rfl) rfl<|Zomi rfl rfl<|Zo (X.cutLHB (p := n - 1) (q := n) Zu58 Zs69 rfl (by show Value.int .i64 _ = _; congr 1; omega) rfl ⟨by omega, by omega⟩ Zz) rfl ?_
  refine Zc (X.clearE (K := KPk) (p := n - 1) (n := n - (n - 1)) Zu58 Zv69 rfl (by decide) rfl (by rw [hlen1]; omega) hB2 hC2) rfl ?_
  rintro _ w3 ⟨z3, rfl, hzl3, hB3, hC3, hx3, hs3⟩
  refine Ze<|Zs<|Zr<|Zom rfl rfl<|Zoa rfl rfl<|Ze<|X.ret1 Tryz.func86 Tryz.results86 rfl ?_
  have hn1 : i + (n - (i + 1)) = n - 1 := by omega
  have e1 : (ch.take i ++ z2 ++ ch.drop (i + (n - (i + 1)))).take (n - 1) = ch.take i ++ z2 := by
    have h4 : (ch.take i ++ z2).length = n - 1 := by rw [List.length_append, List.length_take, hzl]; omega
    rw [← h4]; exact List.take_left
  have hrep : RepC KPk 0 0 w3 (xs.eraseIdx i) (ch.take i ++ z2) := by
    rw [List.eraseIdx_eq_take_drop_succ]
    have h5 := hF.rep.takeC i
    rw [List.take_take, Nat.min_eq_left (show i ≤ n by omega)] at h5
    exact (h5.app (hz2.flat KPk_flat)).flat KPk_flat
  rw [hn1]
  refine ⟨rfl, Full.mine (b := b) ⟨hB3, hC3, by simp only [List.length_append, List.length_take, List.length_drop, hzl3, hlen1]; omega, hF.cap, by omega, ?_, by decide⟩ hSb, (Ext.trans (T := fun k => k = b) (U := fun k => k = b) (Ext.trans (hk1) hx2 (fun _ _ h => h.elim) (fun _ _ h => h)) hx3 (fun _ _ h => h) (fun _ _ h => h)).mono (fun k _ h => ?_)⟩
  ·rw [List.append_assoc, List.take_append_of_le_length (by rw [List.length_take, hlen1]; omega), List.take_take, Nat.min_self, e1]; exact hrep
  ·rw [show k = b from h]; exact hSb
theorem InsertK_c {S : Nat → Prop} {A : Option Addr} {n c bv : Nat} {xs : List PKEY} {y : PKEY} {csv : List Value} {ev : TypeId} (i : Nat) (w : World) (hM : Mine KPk 69 S 0 0 w (.slice A n c) xs) (hi : i ≤ n) (hn : n ≤ 1000000) (hSv : Sl KPk bv (bv + 1) w (some ⟨bv, 0, none⟩) 1 [y]) (hBv : Blk w bv csv ev) (hSbv : ¬ S bv) (hfr : ∀ k, w.heap.size ≤ k → S k) :
    Ret Tryz.prog 112 #[.slice A n c, .int .i64 (i : Int), .slice (some ⟨bv, 0, none⟩) 1 1] w fun r w' => ∃ A' c', r = .slice A' (n + 1) c' ∧ n + 1 ≤ c' ∧ Mine KPk 69 S 0 0 w' (.slice A' (n + 1) c') (xs.take i ++ y :: xs.drop i) ∧ Ext S w w' := by
 have hxlM := hM.len
 refine X.enter Zf112 rfl Tryz.ntmps112 rfl<|Zs<|Zr<|Zoa rfl rfl<|Ze<|Zs<|Zr<|Zom rfl rfl<|Zomi rfl rfl<|Zo (X.cutL Zu58 Zs69 rfl rfl ⟨by omega, by omega⟩) rfl<|Ze<|Zs<|Zr<|Zom rfl rfl<|Zo (X.lenSl Zu58 rfl) rfl<|Zoai rfl rfl<|Ze<|Zs<|Zs<|Zr<|Zomi rfl rfl<|X.opP X.wN rfl rfl (X.eqI rfl rfl) (fun h16 => ?_) (fun h16 => ?_)
 ·exact absurd h16 Zz
 ·refine Ze<|Zf rfl<|Zk<|Zs<|Zr<|Zom rfl rfl<|Zo (X.lenSl Zu58 rfl) rfl<|Zoai rfl rfl<|Ze<|Zs<|Zs<|Zr<|Zomi rfl rfl<|Zomi rfl rfl<|X.opP X.wN rfl rfl (X.eqI rfl rfl) (fun h22 => ?_) (fun h22 => ?_)
  ·refine Ze<|Zt rfl<|Zs<|Zr<|Zom rfl rfl<|Zom rfl rfl<|Zc (X.appE (K := KPk) (S := S) KPk_flat Zu58 EPk rfl rfl (hM) (hSv) (by (try simp only [List.length_cons, List.length_nil]); omega) (fun k hk => hfr k Zz)) rfl ?_
   rintro v1 w1 ⟨hM1, hx1⟩
   have hx1' := hx1.size
   refine Zoa rfl rfl<|Ze<|X.ret1 Zf112 Zr112 rfl ?_
   have hiq : i = n := by omega
   obtain ⟨A', c', e, hc', _⟩ := hM1.slice
   subst e
   have e2 : (xs ++ [y]).length = n + 1 := by rw [List.length_append, hxlM]; rfl
   have e3 : xs.take i ++ y :: xs.drop i = xs ++ [y] := by rw [List.take_of_length_le Zz, List.drop_of_length_le Zz]
   rw [e3]
   rw [e2] at hM1 hc'
   exact ⟨A', c', by rw [e2]; rfl, hc', hM1, (hx1.mono (fun k _ h => h))⟩
  ·rcases hM.full (show 0 < KPk.sz by decide) with ⟨h0, _⟩ | ⟨b, ch, rfl, hSb, hF⟩
   ·exact absurd h22 Zz
   have hcn := hF.le
   have hcl := hF.len
   have hxl := hF.xlen
   have hbl := hF.blk.lt
   have hbv := hBv.lt
   have hne : bv ≠ b := fun e => hSbv (by rw [e]; exact hSb)
   refine Ze<|Zf rfl<|Zk<|Zs<|Zs<|Zr<|Zomi rfl rfl<|Zomi rfl rfl<|Zo (X.add rfl rfl (X.w_i64 Zz)) rfl<|Zom rfl rfl<|Zo (X.capSl Zu58 rfl) rfl<|X.opP X.wN rfl rfl (X.gtr rfl rfl) (fun h31 => ?_) (fun h31 => ?_)
   ·refine Ze<|Zt rfl<|Zs<|Zr<|Zom rfl rfl<|Zomi rfl rfl<|Zo (X.cutHB Zu58 Zs69 rfl rfl Zz) rfl<|Zomi rfl rfl<|Zomi rfl rfl<|Zo (X.add rfl rfl (X.w_i64 Zz)) rfl<|Zomi rfl rfl<|Zo (X.sub rfl rfl (X.w_i64 Zz)) rfl<|Zc (X.appMkGrowE (K := KPk) (i := i) (c := c) (m := n + 1 - i) Zu58 Zu3 EPk rfl (by show Value.int .i64 _ = _; congr 1; omega) Zz Zz Zz hF.blk hF.chk hF.len) rfl ?_
    rintro _ w2 ⟨nc, zg, rfl, hnc, hncm, hzg, hBg, hCg, hk2, hsg⟩
    refine Zoa rfl rfl<|Ze<|Zs<|Zr<|Zom rfl rfl<|Zomi rfl rfl<|Zo (X.cutLB (p := i) Zu58 Zs69 rfl rfl Zz Zz) rfl<|Zom rfl rfl ?_
    have hXl : (ch.take i ++ zg).length = nc := by rw [List.length_append, List.length_take, hzg]; omega
    refine Zc (X.copyE (K := KPk) (p := i) (m := 1) KPk_flat Zu58 Zs69 rfl rfl (by (try simp only []); omega) hBg hCg (by rw [hXl]; omega) (hSv.keep hk2)) rfl ?_
    rintro _ w3 ⟨zv, rfl, hzv, hBv1, hCv1, hx3, hsv⟩
    refine Ze<|Zs<|X.regionD (fun k => k = w.heap.size) 9 Zl Zl (fun w4 hk4 hz4 => ?_)
    refine ZDc 0 rfl Zl (X.move rfl)<|ZDc 1 rfl Zl (Zdmi rfl)<|ZDc 2 rfl Zl (Zdmi rfl)<|ZDc 3 rfl Zl (X.add (c := ((i + 1 : Nat) : Int)) rfl rfl (by rw [X.w_i64 Zz]; omega)) ?_
    refine ZDc 4 rfl Zl (X.cutLB (p := i + 1) Zu58 Zs69 rfl rfl Zz Zz)<|ZDc 5 rfl Zl (X.move rfl)<|ZDc 6 rfl Zl (Zdmi rfl)<|ZDc 7 rfl Zl (X.cutLB (p := i) Zu58 Zs69 rfl rfl Zz Zz) ?_
    have hzvl : zv.length = 1 := hzv.len.symm
    have hX1 : ((ch.take i ++ zg).take i ++ zv ++ (ch.take i ++ zg).drop (i + 1)).length = nc := by simp only [List.length_append, List.length_take, List.length_drop, hzg, hzvl]; omega
    have hFg := ((hF.ext KPk_flat hk2 (fun h => h)).ext KPk_flat hx3 (by (try simp only []); omega))
    refine X.dE (i := 8) Zl rfl (X.dwN rfl) (X.copyE (K := KPk) (p := i + 1) (m := n - i) KPk_flat Zu58 Zs69 rfl rfl (by (try simp only []); omega) (hBv1.keep hk4) hCv1 (by rw [hX1]; omega) ((hFg.ext KPk_flat hk4 (fun h => h)).sl KPk_flat i Zz)) (by rintro _ w5 ⟨z2, rfl, hz2, hB2, hC2, hx5, hs2⟩ _; exact hx5.mono (fun k _ h => by (try simp only [] at *); omega)) ?_
    rintro _ w5 ⟨z2, rfl, hz2, hB2, hC2, hx5, hs2⟩
    refine Zdend Zl<|Zs<|Zr<|Zom rfl rfl<|Zoa rfl rfl<|Ze<|X.ret1 Zf112 Zr112 rfl ?_
    have hz2l : z2.length = n - i := by rw [← hz2.len, List.length_drop, hxl]
    have hgl : (((ch.take i ++ zg).take i ++ zv ++ (ch.take i ++ zg).drop (i + 1)).take (i + 1) ++ z2 ++ ((ch.take i ++ zg).take i ++ zv ++ (ch.take i ++ zg).drop (i + 1)).drop (i + 1 + (n - i))).length = nc := by simp only [List.length_append, List.length_take, List.length_drop, hzg, hzvl, hz2l]; omega
    have hrep : RepC KPk 0 0 w5 (xs.take i ++ y :: xs.drop i) ((ch.take i ++ zg).take i ++ zv ++ z2) := by
      have h5 := hF.rep.takeC i
      rw [List.take_take, Nat.min_eq_left (show i ≤ n by omega)] at h5
      rw [List.take_append_of_le_length (by rw [List.length_take]; omega), List.take_take, Nat.min_self, show xs.take i ++ y :: xs.drop i = xs.take i ++ [y] ++ xs.drop i by simp]
      exact ((h5.app (hzv.flat KPk_flat)).app (hz2.flat KPk_flat)).flat KPk_flat
    have e4 : i + (n + 1 - i) = n + 1 := by omega
    rw [e4]
    refine ⟨_, _, rfl, by omega, Full.mine ⟨hB2, hC2, hgl, hncm, by omega, ?_, by decide⟩ (hfr _ Zz), (Ext.trans (Ext.trans (Ext.trans (hk2.mono (fun k _ h => h.elim)) (hx3.mono (fun k _ h => hfr k (by have h : k = _ := h; omega))) (fun _ _ h => h) (fun _ _ h => h)) (hk4.mono (fun k _ h => h.elim)) (fun _ _ h => h) (fun _ _ h => h)) (hx5.mono (fun k _ h => hfr k (by have h : k = _ := h; omega))) (fun _ _ h => h) (fun _ _ h => h))⟩
    rw [ins_grow Zz Zz hzvl hz2l]; exact hrep
   ·refine Ze<|Zf rfl<|Zk<|Zs<|Zr<|Zom rfl rfl<|Zomi rfl rfl<|Zomi rfl rfl<|Zo (X.add (c := ((n + 1 : Nat) : Int)) rfl rfl (by rw [X.w_i64 Zz]; omega)) rfl ?_
    refine Zo (X.cutHB (q := n + 1) Zu58 Zs69 rfl rfl Zz) rfl<|Zoa rfl rfl<|Ze<|Zs<|Zs<|Zr<|Zom rfl rfl<|Zom rfl rfl<|Zomi rfl rfl<|Zomi rfl rfl<|Zo (X.add (c := ((i + 1 : Nat) : Int)) rfl rfl (by rw [X.w_i64 Zz]; omega)) rfl ?_
    refine Zo (X.cutLB (p := i + 1) Zu58 Zs69 rfl rfl Zz Zz) rfl<|Zo (X.externE Tryz.func147 Zl rfl rfl rfl rfl rfl (X.run_apart Zu58 Zs69 hne (hBv.keep (Keep.refl _)) (hF.blk.keep (Keep.refl _)) (by rw [hF.chk.len, hcl]; exact Nat.mul_pos Zz (by decide)))) rfl ?_
    refine Zo (X.not_ rfl) rfl<|Ze<|Zt rfl<|Zs<|X.regionD (fun k => k = b) 9 Zl Zl (fun w7 hk7 hz7 => ?_)
    refine ZDc 0 rfl Zl (X.move rfl)<|ZDc 1 rfl Zl (Zdmi rfl)<|ZDc 2 rfl Zl (Zdmi rfl)<|ZDc 3 rfl Zl (X.add (c := ((i + 1 : Nat) : Int)) rfl rfl (by rw [X.w_i64 Zz]; omega)) ?_
    refine ZDc 4 rfl Zl (X.cutLB (p := i + 1) Zu58 Zs69 rfl rfl Zz Zz)<|ZDc 5 rfl Zl (X.move rfl)<|ZDc 6 rfl Zl (Zdmi rfl)<|ZDc 7 rfl Zl (X.cutLB (p := i) Zu58 Zs69 rfl rfl Zz Zz) ?_
    have hF7 := hF.ext KPk_flat hk7 (fun h => h)
    refine X.dE (i := 8) Zl rfl (X.dwN rfl) (X.copyE (K := KPk) (p := i + 1) (m := n - i) KPk_flat Zu58 Zs69 rfl rfl (by (try simp only []); omega) hF7.blk hF7.chk Zz (hF7.sl KPk_flat i Zz)) (by rintro _ w8 ⟨z2, rfl, hz2, hB2, hC2, hx8, hs2⟩ _; exact hx8.mono (fun k _ h => by (try simp only [] at *); omega)) ?_
    rintro _ w8 ⟨z2, rfl, hz2, hB2, hC2, hx8, hs2⟩
    refine Zdend Zl<|Zs<|Zr<|Zom rfl rfl<|Zomi rfl rfl<|Zo (X.cutLB (p := i) Zu58 Zs69 rfl rfl Zz Zz) rfl<|Zom rfl rfl ?_
    have hz2l : z2.length = n - i := by rw [← hz2.len, List.length_drop, hxl]
    have hX2 : (ch.take (i + 1) ++ z2 ++ ch.drop (i + 1 + (n - i))).length = c := by simp only [List.length_append, List.length_take, List.length_drop, hz2l]; omega
    refine Zc (X.copyE (K := KPk) (p := i) (m := 1) KPk_flat Zu58 Zs69 rfl rfl (by (try simp only []); omega) (hB2) hC2 (by rw [hX2]; omega) ((hSv.keep hk7).ext hx8 (fun k h1 h2 h => by have h : k = b := h; omega))) rfl ?_
    rintro _ w9 ⟨zv, rfl, hzv, hBv1, hCv1, hx9, hsv⟩
    refine Ze<|Zs<|Zr<|Zom rfl rfl<|Zoa rfl rfl<|Ze<|X.ret1 Zf112 Zr112 rfl ?_
    have hzvl : zv.length = 1 := hzv.len.symm
    have hgl : ((ch.take (i + 1) ++ z2 ++ ch.drop (i + 1 + (n - i))).take i ++ zv ++ (ch.take (i + 1) ++ z2 ++ ch.drop (i + 1 + (n - i))).drop (i + 1)).length = c := by simp only [List.length_append, List.length_take, List.length_drop, hzvl, hz2l]; omega
    have hrep : RepC KPk 0 0 w9 (xs.take i ++ y :: xs.drop i) (ch.take i ++ zv ++ z2) := by
      have h5 := hF.rep.takeC i
      rw [List.take_take, Nat.min_eq_left (show i ≤ n by omega)] at h5
      rw [show xs.take i ++ y :: xs.drop i = xs.take i ++ [y] ++ xs.drop i by simp]
      exact ((h5.app (hzv.flat KPk_flat)).app (hz2.flat KPk_flat)).flat KPk_flat
    refine ⟨_, _, rfl, by omega, Full.mine ⟨hBv1, hCv1, hgl, hF.cap, by omega, ?_, by decide⟩ hSb, (Ext.trans (Ext.trans (hk7.mono (fun k _ h => h.elim)) (hx8.mono (fun k _ h => by rw [show k = b from h]; exact hSb)) (fun _ _ h => h) (fun _ _ h => h)) (hx9.mono (fun k _ h => by rw [show k = b from h]; exact hSb)) (fun _ _ h => h) (fun _ _ h => h))⟩
    rw [ins_room Zz Zz hzvl hz2l]; exact hrep
theorem checkPk (em : Bool) (n : Nat) (x : PKEY) (w : World) : (Instr.checkKey em (n + 2) 69 (encPK x)).run Tryz.prog w = .ok () w := by
  have h1 : ∀ w, (Instr.checkKey em (n + 1) 9 (.string x.1)).run Tryz.prog w = .ok () w := fun w => by simp [Instr.checkKey, run_underlying Tryz.underlying9]
  have h2 : ∀ w, (Instr.checkKey em (n + 1) 3 (.int .i64 x.2)).run Tryz.prog w = .ok () w := fun w => by simp [Instr.checkKey, run_underlying Zu3]
  rw [Instr.checkKey]
  simp [run_underlying Zu69, part, Zi9, Zi3, h1, h2]
theorem bitsPk (n : Nat) (x : PKEY) : Instr.sameBits (n + 2) (encPK x) (encPK x) = true := by
  have h1 : Instr.sameBits (n + 1) (.string x.1) (.string x.1) = true := by simp [Instr.sameBits, MapKept.bytes_beq]
  have h2 : Instr.sameBits (n + 1) (.int .i64 x.2) (.int .i64 x.2) = true := by simp [Instr.sameBits]
  rw [Instr.sameBits]
  simp [h1, h2]
theorem keyPk : KeyT Tryz.prog 69 (fun x : PKEY => encPK x) :=
  keyStruct Zu69 (fun em x w => checkPk em 9998 x w) (fun x y w => eqPk x y w) (fun x => bitsPk 9998 x)
theorem erase_filter {k : PKEY} : ∀ {xs : List PKEY} {j : Nat}, xs.Nodup → xs[j]? = some k → xs.eraseIdx j = xs.filter fun x => decide (x ≠ k)
  | [], j, _, h => by simp at h
  | x :: xs, 0, hn, h => by
    simp at h; subst h
    obtain ⟨h1, h2⟩ := List.nodup_cons.1 hn
    rw [List.eraseIdx_cons_zero, List.filter_cons, if_neg (by simp)]
    symm; rw [List.filter_eq_self]
    intro y hy; simp; exact fun e => h1 (by rw [← e]; exact hy)
  | x :: xs, j + 1, hn, h => by
    obtain ⟨h1, h2⟩ := List.nodup_cons.1 hn
    have h' : xs[j]? = some k := by simpa using h
    have hxk : x ≠ k := fun e => h1 (by rw [e]; exact List.mem_of_getElem? h')
    rw [List.eraseIdx_cons_succ, List.filter_cons, if_pos (by simpa using hxk), erase_filter h2 h']
theorem filter_none {k : PKEY} {xs : List PKEY} (h : k ∉ xs) : xs.filter (fun x => decide (x ≠ k)) = xs := by
  rw [List.filter_eq_self]; intro y hy; simp; exact fun e => h (by rw [← e]; exact hy)
abbrev caL (room : Int) (bm : Option Nat) (A : Option Addr) (n c : Nat) (h ms g : Int) : List Value := [.int .i64 room, .map bm, .slice A n c, .int .i64 h, .int .i64 ms, .int .i64 g]
theorem mine_0 {α : Type} {K : Kd α} (hF : Flat K) {e : TypeId} {S : Nat → Prop} {w : World} {A : Option Addr} {n c : Nat} {xs : List α} (h : Mine K e S 0 0 w (.slice A n c) xs) (lo : Nat) (hl : ∀ k, S k → lo ≤ k) : Sl K lo w.heap.size w A n xs := by
  obtain ⟨A', c', e1, _, hs⟩ := h.slF hF lo hl
  injection e1 with e1 e2 e3
  rw [e1, e2]; exact hs
theorem fdrop_c {S : Nat → Prop} {bc : Nat} {room : Int} {bm : Option Nat} {A : Option Addr} {n c : Nat} {h ms g : Int} {xs : List PKEY} {ec : TypeId} (k : PKEY) (w : World) (hB : Blk w bc (caL room bm A n c h ms g) ec) (hM : Mine KPk 69 S 0 0 w (.slice A n c) xs) (hbc : ¬ S bc) (hn : n ≤ 100000) (hnd : xs.Nodup) : Ret Tryz.prog 39 #[.pointer (some ⟨bc, 2, none⟩), encPK k] w fun r w' => r = .tuple #[] ∧ ∃ A' n' c', Blk w' bc (caL room bm A' n' c' h ms g) ec ∧ Mine KPk 69 S 0 0 w' (.slice A' n' c') (xs.filter fun x => decide (x ≠ k)) ∧ Ext (fun k => k = bc ∨ S k) w w' := by
 have hbl := hB.lt
 refine X.enter Zf39 rfl Tryz.ntmps39 rfl<|Zs<|Zr<|Zc (X.boxE rfl rfl) rfl ?_
 rintro _ w1 ⟨rfl, hB1, hk1, hz1⟩
 refine Ze<|Zs<|X.regionD (fun _ => False) 6 Zl Zl (fun w2 hk2 hz2 => ?_)
 refine ZDc 0 rfl Zl (X.move rfl)<|ZDc 1 rfl Zl (X.nilCk rfl)<|ZDc 2 rfl Zl (X.fldB (j := 2) Zu103 rfl rfl Zs58 rfl)<|ZD 3 rfl Zl (fun w' hk' => X.load1B Zi58 (hB.keep ((hk1.trans hk2).trans hk')) rfl rfl)<|ZD 4 rfl Zl (fun w' hk' => X.loadNB Zi69 Zs69 (hB1.keep (hk2.trans hk')) rfl rfl rfl)<|X.dE (i := 5) Zl rfl (X.dwN rfl) (X.callE (Index_c k _ (mine_0 KPk_flat (hM.keep (hk1.trans hk2)) 0 (fun _ _ => Nat.zero_le _))) Tryz.call85 rfl rfl) (by rintro _ w3 ⟨ix, rfl, hix, hk3⟩ _; exact hk3.mono (fun _ _ h => h.elim)) ?_
 rintro _ w3 ⟨ix, rfl, hix, hk3⟩
 have hk3' := hk3.size
 refine X.dStep (i := 6) Zl rfl (X.dwN rfl) (X.assign (v := .int .i64 _) rfl) (fun h => absurd h (by decide))<|Zdend Zl<|Zs<|Zr<|Zomi rfl rfl<|X.opP X.wN rfl rfl (X.geq rfl rfl) (fun h12 => ?_) (fun h12 => ?_)
 ·obtain ⟨j, rfl, hjn, hjx, hjt⟩ : ∃ j : Nat, ix = (j : Int) ∧ j < n ∧ xs[j]? = some k ∧ k ∉ xs.take j := by
    rcases hix with ⟨e, _⟩ | h
    ·omega
    ·exact h
  refine Ze<|Zt rfl<|Zr<|Zom rfl rfl<|Zom rfl rfl<|Zo (X.nilCk rfl) rfl<|Zo (X.fldB (j := 2) Zu103 rfl rfl Zs58 rfl) rfl<|Zo (X.load1B Zi58 (hB.keep ((hk1.trans hk2).trans hk3)) rfl rfl) rfl<|Zomi rfl rfl<|Zomi rfl rfl<|Zo (X.add (c := ((j + 1 : Nat) : Int)) rfl rfl (by rw [X.w_i64 Zz]; omega)) rfl ?_
  refine Zc (X.callE (DeleteK_c j _ (hM.keep ((hk1.trans hk2).trans hk3)) hjn Zz) Tryz.call86 rfl rfl) rfl ?_
  rintro _ w4 ⟨rfl, hMd, hx4⟩
  have hx4' := hx4.size
  refine Zo (X.nilCk rfl) rfl<|Zo (X.fldB (j := 2) Zu103 rfl rfl Zs58 rfl) rfl<|Zc (X.storeE Zs58 ((hB.keep ((hk1.trans hk2).trans hk3)).ext hx4 (fun h => hbc h)) rfl rfl rfl rfl) rfl ?_
  rintro _ w5 ⟨hB5, hx5, hz5⟩
  refine Ze<|X.end0 Zf39 Tryz.results39 ?_
  rw [erase_filter hnd hjx] at hMd
  exact ⟨rfl, _, _, _, hB5, (hMd.ext hx5 (by intros; omega) (fun k h1 h2 => hbc (by have h2 : k = bc := h2; rw [← h2]; exact h1))), (Ext.andThen (Ext.andThen (Ext.andThen (Ext.andThen (Ext.andThen (Ext.refl (fun k => k = bc ∨ S k) _) hk1 zq22) hk2 zq22) hk3 zq22) hx4 zq22) hx5 zq22)⟩
 ·refine Ze<|Zf rfl<|Zk<|X.end0 Zf39 Tryz.results39 ?_
  have hnk : k ∉ xs := by
    rcases hix with ⟨_, h⟩ | ⟨j, e, _⟩
    ·exact h
    ·omega
  rw [filter_none hnk]
  exact ⟨rfl, _, _, _, (hB.keep ((hk1.trans hk2).trans hk3)), hM.keep ((hk1.trans hk2).trans hk3), (Ext.andThen (Ext.andThen (Ext.andThen (Ext.refl (fun k => k = bc ∨ S k) _) hk1 zq22) hk2 zq22) hk3 zq22)⟩
theorem touch_c {S : Nat → Prop} {bc : Nat} {room : Int} {bm : Option Nat} {A : Option Addr} {n c : Nat} {h ms g : Int} {xs : List PKEY} {ec : TypeId} (k : PKEY) (w : World) (hB : Blk w bc (caL room bm A n c h ms g) ec) (hM : Mine KPk 69 S 0 0 w (.slice A n c) xs) (hbc : ¬ S bc) (hn : n ≤ 100000) (hnd : xs.Nodup) (hSw : ∀ q, S q → q < w.heap.size) : Ret Tryz.prog 60 #[.pointer (some ⟨bc, 2, none⟩), encPK k] w fun r w' => r = .tuple #[] ∧ ∃ A' n' c', Blk w' bc (caL room bm A' n' c' h ms g) ec ∧ Mine KPk 69 (fun q => S q ∨ w.heap.size ≤ q) 0 0 w' (.slice A' n' c') (k :: xs.filter fun x => decide (x ≠ k)) ∧ Ext (fun q => q = bc ∨ S q ∨ w.heap.size ≤ q) w w' := by
 have hbl := hB.lt
 refine X.enter Tryz.func60 rfl Tryz.ntmps60 rfl<|Zs<|Zr<|Zc (X.boxE rfl rfl) rfl ?_
 rintro _ w1 ⟨rfl, hB1, hk1, hz1⟩
 refine Ze<|Zs<|Zr<|Zom rfl rfl<|Zo (X.loadNB Zi69 Zs69 hB1 rfl rfl rfl) rfl<|Zc (X.callE (fdrop_c k _ (hB.keep hk1) (hM.keep hk1) hbc hn hnd) Zc39 rfl rfl) rfl ?_
 rintro _ w2 ⟨rfl, Aq, nq, cq, hBq, hMq, hx2⟩
 have hx2' := hx2.size
 refine Ze<|X.regionD (fun q => S q ∨ w2.heap.size ≤ q) 8 Zl Zl (fun w3 hk3 hz3 => ?_)
 refine ZDc 0 rfl Zl (X.move rfl)<|ZDc 1 rfl Zl (X.move rfl)<|ZDc 2 rfl Zl (X.nilCk rfl)<|ZDc 3 rfl Zl (X.fldB (j := 2) Zu103 rfl rfl Zs58 rfl)<|ZD 4 rfl Zl (fun w' hk' => X.load1B Zi58 ((hBq.keep hk3).ext hk' (by intros; (try simp only []); first | omega | exact fun hq => hq.elim (fun hq => by first | exact hbc hq | (have := hSw _ hq; omega)) (fun hq => by omega))) rfl rfl) ?_
 refine ZD 5 rfl Zl (fun w' hk' => X.loadNB Zi69 Zs69 (((hB1.ext hx2 (by intro h; have h : _ = bc ∨ S _ := h; exact h.elim (fun h => by omega) (fun h => by have := hSw _ h; omega))).keep hk3).ext hk' (by intros; (try simp only []); first | omega | exact fun hq => hq.elim (fun hq => by first | exact hbc hq | (have := hSw _ hq; omega)) (fun hq => by omega))) rfl rfl rfl) ?_
 refine X.dE (i := 6) Zl rfl (X.dwN rfl) (X.litKF KPk_flat (K := KPk) (xs := [Operand.tmp 12]) (vs := [encPK k]) (ys := [k]) Zu58 Zs69 Zv69 rfl rfl rfl rfl rfl (repsPk k)) (by rintro _ w4 ⟨rfl, hs4, hB4, hk4, hz4⟩ _; exact hk4.mono (fun _ _ h => h.elim)) ?_
 rintro _ w4 ⟨rfl, hs4, hB4, hk4, hz4⟩
 have hSI : ∃ SI : Nat → Prop, SI = fun k => (S k ∨ w2.heap.size ≤ k) ∧ k ≠ w3.heap.size := ⟨_, rfl⟩
 obtain ⟨SI, hSI⟩ := hSI
 have hMI := ((((hMq.keep hk3).keep hk4)).mono (T := SI) (fun k hk h => by rw [hSI]; exact ⟨.inl h, fun e => by have := hSw k h; omega⟩))
 refine X.dE (i := 7) Zl rfl (X.dwN rfl) (X.callE (InsertK_c (bv := w3.heap.size) 0 _ hMI (Nat.zero_le _) (by have := hMq.len; have := List.length_filter_le (fun x => decide (x ≠ k)) xs; have := hM.len; omega) (Sl.wide (hs4) (Nat.le_refl _) Zz) hB4 (by rw [hSI]; exact fun h => h.2 rfl) (fun q hq => by rw [hSI]; exact ⟨.inr Zz, by omega⟩)) Tryz.call112 rfl rfl) (by rintro _ w5 ⟨Ai, ci, rfl, hci, hMi, hx5⟩ _; exact hx5.mono (fun k _ h => by rw [hSI] at h; exact h.1.imp id (fun h5 => by omega))) ?_
 rintro _ w5 ⟨Ai, ci, rfl, hci, hMi, hx5⟩
 have hx5' := hx5.size
 refine X.dStep (i := 8) Zl rfl (X.dwN rfl) (X.nilCk rfl) (fun h => absurd h (by decide))<|X.dStep (i := 9) Zl rfl (X.dwN rfl) (X.fldB (j := 2) Zu103 rfl rfl Zs58 rfl) (fun h => absurd h (by decide))<|X.dE (i := 10) Zl rfl (X.dwN rfl) (X.storeE Zs58 ((hBq.keep (hk3.trans hk4)).ext hx5 (by rw [hSI]; exact fun h => h.1.elim hbc (fun h => by omega))) rfl rfl rfl rfl) (fun _ _ _ h => absurd h (by decide)) ?_
 rintro _ w6 ⟨hB6, hx6, hz6⟩
 refine Zdend Zl<|X.end0 Tryz.func60 Tryz.results60 ?_
 exact ⟨rfl, _, _, _, hB6, ((hMi.ext hx6 (by intros; omega) (fun k h1 h2 => by have h2 : k = bc := h2; rw [hSI] at h1; rw [h2] at h1; exact h1.1.elim hbc (fun h => by omega)))).mono (fun q _ h => by rw [hSI] at h; exact h.1.imp id (fun h => by omega)), (Ext.andThen (Ext.andThen (Ext.andThen (Ext.andThen (Ext.andThen (Ext.andThen (Ext.refl (fun q => q = bc ∨ S q ∨ w.heap.size ≤ q) _) hk1 zq7) hx2 zq7) hk3 zq7) hk4 zq7) hx5 zq7) hx6 zq7)⟩
theorem own_c {lo hi : Nat} {A : Option Addr} {n c : Nat} {pg : List CD} (w : World) (hs : Sl KC lo hi w A n pg) (hhi : hi ≤ w.heap.size) (hok : okPg pg) : Ret Tryz.prog 59 #[.slice A n c] w fun r w' => ∃ A' c' l TB, r = .slice A' n c' ∧ n ≤ c' ∧ Mine KCt 92 (fun k => w.heap.size ≤ k ∧ k < w'.heap.size ∧ ¬ TB k) 0 0 w' (.slice A' n c') l ∧ Tups TB w' l pg ∧ (∀ k, TB k → w.heap.size ≤ k ∧ k < w'.heap.size) ∧ Keep w w' := by
 obtain ⟨l0, hs0, ht0⟩ := sl_tups hs
 have hl := hs.len
 have hpl := hok.1
 refine X.enter Tryz.func59 rfl Tryz.ntmps59 rfl<|Zs<|Zr<|Zoa rfl rfl<|Ze<|Zs<|Zr<|Zoa rfl rfl<|Ze<|Zs<|Zs<|Zr<|Zoms rfl rfl<|Zo (X.lenSl Zu29 rfl) rfl<|Zom rfl rfl<|Ze<|Zb<|X.loopL (σ := Nat × Value × List CT × (Nat → Prop)) (fun s => [(3, s.2.1), (6, .slice A n c), (7, .int .i64 (n : Int)), (8, .int .i64 (s.1 : Int))]) (fun s w' => s.1 ≤ n ∧ s.2.2.1.length = s.1 ∧ Mine KCt 92 (fun k => w.heap.size ≤ k ∧ ¬ s.2.2.2 k) 0 0 w' s.2.1 s.2.2.1 ∧ Tups s.2.2.2 w' s.2.2.1 (pg.take s.1) ∧ (∀ k, s.2.2.2 k → w.heap.size ≤ k ∧ k < w'.heap.size) ∧ Keep w w') (fun s => n - s.1) (0, _, [], fun _ => False) ⟨rfl, rfl, rfl, rfl, trivial⟩ ⟨Nat.zero_le _, rfl, Mine.nil _ _ _ _ _ _, trivial, fun k h => h.elim, (Keep.refl _)⟩ ?_
 rintro ⟨i, v, l, TB⟩ b0 wl ⟨hi, hll, hMo, hTu, hTB, hk⟩ hback
 dsimp only
 simp only at hi hll hMo hTu hTB
 have hk' := hk.size
 refine Zs<|Zr<|X.opP X.wN rfl rfl (X.lss rfl rfl) (fun h9 => ?_) (fun h9 => ?_)
 ·obtain ⟨x, hx⟩ := getL (l := l0) i hs0.len Zz
  obtain ⟨q, hq, hxq, hqI, hxc, lo2, hi2, hlh, hst⟩ := ht0.get hx
  have hqm := hok.2 q (List.mem_of_getElem? hq)
  have hstl := hst.len
  have hlow : ∀ k, lo2 ≤ k → k < hi2 → k < w.heap.size := fun k a b => by have := hlh k a b; omega
  refine Ze<|Zs<|Zt rfl<|Zk<|Zs<|Zb<|Zs<|Zr<|Zo (X.idxS (hs0.keep hk) Zu29 Zs92 rfl rfl ⟨by omega, by omega⟩) rfl<|Zo (X.loadSN Tryz.isAgg92 Zs92 (hs0.keep hk) hx rfl (fun _ h => h.1) rfl) rfl<|Zc (X.allocE Zv92 rfl) rfl ?_
  rintro _ w1 ⟨rfl, hB1, hk1, hz1⟩
  refine Zc (X.storeNE Zs92 hB1 rfl rfl rfl rfl (fun u hu => by simp at hu; rcases hu with rfl | rfl <;> rfl)) rfl ?_
  rintro _ w2 ⟨hB2, hx2, hz2⟩
  refine Ze<|X.regionD (fun k => w.heap.size ≤ k ∧ k ≠ wl.heap.size) 9 Zl Zl (fun w3 hk3 hz3 => ?_)
  refine ZDc 0 rfl Zl (X.move rfl)<|ZDc 1 rfl Zl (X.fldB (j := 0) Zu92 rfl rfl Zs90 rfl)<|ZD 2 rfl Zl (fun w' hk' => X.load1B Zi90 ((hB2.keep hk3).ext hk' (by intros; (try simp only []); first | omega | (intro hq; have := hlow _ ‹_› ‹_›; omega))) rfl rfl) ?_
  refine ZDc 4 rfl Zl (X.fldB (j := 1) Zu92 rfl rfl Zs2 rfl)<|ZD 5 rfl Zl (fun w' hk' => X.load1B Zi2 ((hB2.keep hk3).ext hk' (by intros; (try simp only []); first | omega | (intro hq; have := hlow _ ‹_› ‹_›; omega))) rfl rfl) ?_
  refine X.dE (i := 3) Zl rfl (X.dwN rfl) (X.callE (CloneT_c _ ((hst.keep (((hk.trans hk1).step hx2 zq34).trans hk3))) Zz) Tryz.call111 rfl rfl) (by rintro _ w4 ⟨At, ct, rfl, hct, hMt, hk4⟩ _; exact hk4.mono (fun _ _ h => h.elim)) ?_
  rintro _ w4 ⟨At, ct, rfl, hct, hMt, hk4⟩
  have hk4' := hk4.size
  refine ZDc 6 rfl Zl (X.buildB (vs := [(0, .slice At x.1.2.1 ct), (1, .int .i64 x.2)]) (cs := #[.slice At x.1.2.1 ct, .int .i64 x.2]) rfl Zl)<|X.dE (i := 7) Zl rfl (X.dwN rfl) (X.litKF KCt_flat (K := KCt) (xs := [Operand.tmp 18]) (vs := [evC ((At, x.1.2.1, ct), x.2)]) (ys := [((At, x.1.2.1, ct), x.2)]) Zu29 Zs92 Zv92 rfl rfl rfl rfl rfl (repsC _)) (by rintro _ w5 ⟨rfl, hs5, hB5, hk5, hz5⟩ _; exact hk5.mono (fun _ _ h => h.elim)) ?_
  rintro _ w5 ⟨rfl, hs5, hB5, hk5, hz5⟩
  have hMo2 := hMo.mono (T := fun k => w.heap.size ≤ k ∧ ¬ (fun k => (TB k ∨ (w3.heap.size ≤ k ∧ k < w4.heap.size))) k ∧ k ≠ wl.heap.size) (fun k hk h => ⟨h.1, fun ht => ht.elim h.2 (fun ht => by omega), by omega⟩)
  refine X.dE (i := 8) Zl rfl (X.dwN rfl) (X.appE (K := KCt) (S := fun k => w.heap.size ≤ k ∧ ¬ (fun k => (TB k ∨ (w3.heap.size ≤ k ∧ k < w4.heap.size))) k ∧ k ≠ wl.heap.size) KCt_flat Zu29 ECt rfl rfl (hMo2.keep ((((hk1.step hx2 zq34).trans hk3).trans hk4).trans hk5)) hs5 zq15 (fun k hk => ⟨by omega, fun ht => ht.elim (fun ht => by have := hTB k ht; omega) (fun ht => by omega), by omega⟩)) (by rintro v6 w6 ⟨hM6, hx6⟩ _; exact hx6.mono (fun k _ h => by (try simp only [] at *); omega)) ?_
  rintro v6 w6 ⟨hM6, hx6⟩
  have hx6' := hx6.size
  refine X.dStep (i := 9) Zl rfl (X.dwN rfl) (X.assign rfl) (fun h => absurd h (by decide))<|Zdend Zl<|Zi<|Zr<|Zo (X.add rfl rfl (X.w_i64 Zz)) rfl<|Zomi rfl rfl<|Ze ?_
  have hTu2 : Tups (fun k => (TB k ∨ (w3.heap.size ≤ k ∧ k < w4.heap.size))) w6 (l ++ [((At, x.1.2.1, ct), x.2)]) (pg.take (i + 1)) := by
    rw [take_at hq]
    refine Tups.snoc (x := ((At, x.1.2.1, ct), x.2)) (q := q) ⟨hxq, hqI, hct, _, _, fun k a b => .inr ⟨a, b⟩, (((mine_0 KV_flat hMt w3.heap.size (fun k h => h.1)).keep hk5).ext hx6 (fun k h1 h2 h => h.2.1 (.inr ⟨h1, h2⟩)))⟩ ?_
    exact Tups.mono (TC := fun k => (TB k ∨ (w3.heap.size ≤ k ∧ k < w4.heap.size))) (fun k h => .inl h) (Tups.ext hx6 (fun k h1 h2 => h2.2.1 (.inl h1)) (Tups.keep hk5 (Tups.keep hk4 (Tups.keep hk3 (Tups.ext hx2 (fun k h1 h2 => by have := hTB k h1; (try simp only [] at h2); omega) (Tups.keep hk1 (hTu)))))))
  refine hback (i + 1, _, l ++ [((At, x.1.2.1, ct), x.2)], fun k => (TB k ∨ (w3.heap.size ≤ k ∧ k < w4.heap.size))) _ _ ⟨rfl, rfl, rfl, rfl, trivial⟩ ⟨by dsimp only; omega, by dsimp only; rw [List.length_append, hll]; rfl, (hM6).mono (fun k _ h => ⟨h.1, h.2.1⟩), hTu2, fun k hkk => hkk.elim (fun ht => by have := hTB k ht; (try simp only []); omega) (fun ht => by (try simp only [] at *); omega), ((((((hk.trans hk1).step hx2 zq34).trans hk3).trans hk4).trans hk5).step hx6 zq34)⟩ (by dsimp only; omega)
 ·refine Ze<|Zs<|Zf rfl<|Zx rfl<|Zs<|Zr<|Zom rfl rfl<|Zoa rfl rfl<|Ze<|X.ret1 Tryz.func59 Tryz.results59 rfl ?_
  have hMx := hMo
  have hin : i = n := by omega
  rw [hin] at hTu hll
  rw [List.take_of_length_le Zz] at hTu
  obtain ⟨A', c', e, hc', _⟩ := hMx.slice
  subst e
  rw [hll] at hMx hc'
  exact ⟨A', c', l, TB, by rw [hll]; rfl, hc', hMx.mono fun k hk h => ⟨h.1, hk, h.2⟩, hTu, hTB, hk⟩
abbrev PGS := List (PKEY × List CD)
structure Ca where
  room : Int
  L : PGS
  h : Int
  m : Int
  g : Int
abbrev MPK (w : World) (b : Nat) (m : List (PKEY × Value)) : Prop := MpV (fun x : PKEY => encPK x) (fun v : Value => v) w b m
def PgV (TD : Nat → Prop) (w : World) (v : Value) (p : List CD) : Prop := ∃ A c lo hi, v = .slice A p.length c ∧ p.length ≤ c ∧ (∀ k, lo ≤ k → k < hi → TD k) ∧ hi ≤ w.heap.size ∧ Sl KC lo hi w A p.length p
theorem PgV.ext {TD U : Nat → Prop} {w w' : World} {v : Value} {p : List CD} (h : PgV TD w v p) (x : Ext U w w') (hU : ∀ k, TD k → ¬ U k) : PgV TD w' v p :=
  let ⟨A, c, lo, hi, h1, h2, h3, h4, h5⟩ := h; ⟨A, c, lo, hi, h1, h2, h3, Nat.le_trans h4 x.size, h5.ext x fun k a b => hU k (h3 k a b)⟩
theorem PgV.mono {TD TE : Nat → Prop} {w : World} {v : Value} {p : List CD} (h : PgV TD w v p) (hT : ∀ k, TD k → TE k) : PgV TE w v p :=
  let ⟨A, c, lo, hi, h1, h2, h3, h4, h5⟩ := h; ⟨A, c, lo, hi, h1, h2, fun k a b => hT k (h3 k a b), h4, h5⟩
structure Pgs (TD : Nat → Prop) (w : World) (mm : List (PKEY × Value)) (L : PGS) : Prop where
  there : ∀ k p, (k, p) ∈ L → ∃ v, asc k mm = some v ∧ PgV TD w v p
  only : ∀ k v, asc k mm = some v → k ∈ L.map (·.1)
  nd : (L.map (·.1)).Nodup
  ok : ∀ q, q ∈ L → okPg q.2
theorem Pgs.ext {TD U : Nat → Prop} {w w' : World} {mm : List (PKEY × Value)} {L : PGS} (h : Pgs TD w mm L) (x : Ext U w w') (hU : ∀ k, TD k → ¬ U k) : Pgs TD w' mm L :=
  ⟨fun k p hp => let ⟨v, h1, h2⟩ := h.there k p hp; ⟨v, h1, h2.ext x hU⟩, h.only, h.nd, h.ok⟩
theorem Pgs.mono {TD TE : Nat → Prop} {w : World} {mm : List (PKEY × Value)} {L : PGS} (h : Pgs TD w mm L) (hT : ∀ k, TD k → TE k) : Pgs TE w mm L :=
  ⟨fun k p hp => let ⟨v, h1, h2⟩ := h.there k p hp; ⟨v, h1, h2.mono hT⟩, h.only, h.nd, h.ok⟩
structure Sep (T TR TD : Nat → Prop) (bc bm : Nat) (w : World) : Prop where
  cm : bc ≠ bm
  rc : ¬ TR bc
  rm : ¬ TR bm
  dc : ¬ TD bc
  dm : ¬ TD bm
  rd : ∀ k, TR k → ¬ TD k
  tc : T bc
  tm : T bm
  tr : ∀ k, TR k → T k
  td : ∀ k, TD k → T k
  lt : ∀ k, T k → k < w.heap.size
theorem Sep.up {T TR TD : Nat → Prop} {bc bm : Nat} {w w' : World} (h : Sep T TR TD bc bm w) (x : w.heap.size ≤ w'.heap.size) : Sep T TR TD bc bm w' := { h with lt := fun k hk => Nat.lt_of_lt_of_le (h.lt k hk) x }
def CaIn (T : Nat → Prop) (w : World) (bc : Nat) (s : Ca) : Prop := ∃ bm A n c mm TR TD, Blk w bc (caL s.room (some bm) A n c s.h s.m s.g) 105 ∧ Mine KPk 69 TR 0 0 w (.slice A n c) (s.L.map (·.1)) ∧ MPK w bm mm ∧ Pgs TD w mm s.L ∧ Sep T TR TD bc bm w
theorem CaIn.ext {T U : Nat → Prop} {w w' : World} {bc : Nat} {s : Ca} (h : CaIn T w bc s) (x : Ext U w w') (hU : ∀ k, T k → ¬ U k) : CaIn T w' bc s := by
  obtain ⟨bm, A, n, c, mm, TR, TD, h1, h2, h3, h4, h5⟩ := h
  exact ⟨bm, A, n, c, mm, TR, TD, h1.ext x (hU _ h5.tc), h2.ext x (fun k a b => by omega) (fun k a => hU k (h5.tr k a)), h3.ext x (hU _ h5.tm), h4.ext x (fun k a => hU k (h5.td k a)), h5.up x.size⟩
theorem CaIn.keep {T : Nat → Prop} {w w' : World} {bc : Nat} {s : Ca} (h : CaIn T w bc s) (x : Keep w w') : CaIn T w' bc s := h.ext x fun _ _ h => h
theorem CaIn.lt {T : Nat → Prop} {w : World} {bc : Nat} {s : Ca} (h : CaIn T w bc s) : ∀ k, T k → k < w.heap.size := by obtain ⟨bm, A, n, c, mm, TR, TD, h1, h2, h3, h4, h5⟩ := h; exact h5.lt
theorem is_c_cache {bc bm n c : Nat} {A : Option Addr} {rm h ms g : Int} (w : World) (hB : Blk w bc (caL rm (some bm) A n c h ms g) 105) : Ret Tryz.prog 38 #[ptrV bc] w fun r w' => r = .bool true ∧ Keep w w' := by
 refine X.enter Zf38 rfl Zn38 rfl<|Zs<|Zr<|Zoa rfl rfl<|Ze<|Zs<|Zr<|Zom rfl rfl<|Zo (X.nePtrN (A := some _) Zu34 rfl rfl) rfl<|Zomt rfl rfl<|Zg (X.move rfl) rfl rfl rfl rfl<|Zg (X.nilCk rfl) rfl rfl rfl rfl<|Zg (X.fldB (j := 1) Zu105 rfl rfl Zs101 rfl) rfl rfl rfl rfl<|Zg (X.load1B Zi101 hB rfl rfl) rfl rfl rfl rfl<|Zg (X.neMap1 Zu101 rfl rfl) rfl rfl rfl rfl<|Zo (ZdTt rfl rfl) rfl<|Zoat rfl rfl<|Ze<|X.ret1 (v := (.bool _)) Zf38 Zr38 rfl ?_
 exact ⟨rfl, (Keep.refl _)⟩
theorem is0_c_cache (w : World) : Ret Tryz.prog 38 #[.pointer none] w fun r w' => r = .bool false ∧ Keep w w' := by
 refine X.enter Zf38 rfl Zn38 rfl<|Zs<|Zr<|Zoa rfl rfl<|Ze<|Zs<|Zr<|Zom rfl rfl<|Zo (X.nePtrN (A := none) Zu34 rfl rfl) rfl<|Zomf rfl rfl<|Zp rfl rfl rfl<|Zp rfl rfl rfl<|Zp rfl rfl rfl<|Zp rfl rfl rfl<|Zp rfl rfl rfl<|Zo (ZdFf rfl rfl) rfl<|Zoaf rfl rfl<|Ze<|X.ret1 (v := (.bool _)) Zf38 Zr38 rfl ?_
 exact ⟨rfl, (Keep.refl _)⟩
theorem isz_c_cache {bc : Nat} (w : World) (hB : Blk w bc (caL 0 none none 0 0 0 0 0) 105) : Ret Tryz.prog 38 #[ptrV bc] w fun r w' => r = .bool false ∧ Keep w w' := by
 refine X.enter Zf38 rfl Zn38 rfl<|Zs<|Zr<|Zoa rfl rfl<|Ze<|Zs<|Zr<|Zom rfl rfl<|Zo (X.nePtrN (A := some _) Zu34 rfl rfl) rfl<|Zomt rfl rfl<|Zg (X.move rfl) rfl rfl rfl rfl<|Zg (X.nilCk rfl) rfl rfl rfl rfl<|Zg (X.fldB (j := 1) Zu105 rfl rfl Zs101 rfl) rfl rfl rfl rfl<|Zg (X.load1B Zi101 hB rfl rfl) rfl rfl rfl rfl<|Zg (X.neMap0 Zu101 rfl rfl) rfl rfl rfl rfl<|Zo (ZdTf rfl rfl) rfl<|Zoaf rfl rfl<|Ze<|X.ret1 (v := (.bool _)) Zf38 Zr38 rfl ?_
 exact ⟨rfl, (Keep.refl _)⟩
theorem New_c_cache (rm : Int) (w : World) : Ret Tryz.prog 10 #[.int .i64 rm] w fun r w' => (rm < 0 ∨ 1024 < rm) ∧ r = .tuple #[.pointer none, .int .i64 80] ∧ Keep w w' ∨ ¬ (rm < 0 ∨ 1024 < rm) ∧ ∃ bc T, r = .tuple #[ptrV bc, .int .i64 0] ∧ CaIn T w' bc ⟨rm, [], 0, 0, 0⟩ ∧ (∀ k, T k → w.heap.size ≤ k) ∧ Keep w w' := by
 refine X.enter Zf10 rfl Tryz.ntmps10 rfl<|Zs<|Zr<|Zoa rfl rfl<|Zoa rfl rfl<|Ze<|Zs<|Zs<|Zr<|Zomi rfl rfl<|X.opP X.wN rfl rfl (X.lss rfl rfl) (fun h5 => ?_) (fun h5 => ?_)
 ·refine Zomt rfl rfl<|Zp rfl rfl rfl<|Zp rfl rfl rfl<|Zo (ZdTt rfl rfl) rfl<|Ze<|Zt rfl<|Zs<|Zr<|Zoa rfl rfl<|Zoa rfl rfl<|Ze<|X.ret2 (v2 := (.int .i64 _)) Zf10 Zr10 rfl rfl ?_
  exact .inl ⟨by omega, rfl, (Keep.refl _)⟩
 ·refine Zomf rfl rfl<|Zg (Zdmi rfl) rfl rfl rfl rfl<|X.opP (X.wG rfl rfl rfl) rfl rfl (X.gtr rfl rfl) (fun h8 => ?_) (fun h8 => ?_)
  ·refine Zo (ZdFt rfl rfl) rfl<|Ze<|Zt rfl<|Zs<|Zr<|Zoa rfl rfl<|Zoa rfl rfl<|Ze<|X.ret2 (v2 := (.int .i64 _)) Zf10 Zr10 rfl rfl ?_
   exact .inl ⟨by omega, rfl, (Keep.refl _)⟩
  ·refine Zo (ZdFf rfl rfl) rfl<|Ze<|Zf rfl<|Zk<|Zs<|Zr<|Zomi rfl rfl<|Zc (X.makeMapV (fun x : PKEY => encPK x) (fun v : Value => v)) rfl ?_
   rintro _ w1 ⟨rfl, hG1, hk1, hz1⟩
   refine Zo (X.buildB (vs := [(0, .int .i64 rm), (1, .map (some w.heap.size))]) (cs := #[.int .i64 rm, .map (some w.heap.size), .slice none 0 0, .int .i64 0, .int .i64 0, .int .i64 0]) rfl Zl) rfl<|Zc (X.boxE rfl rfl) rfl ?_
   rintro _ w2 ⟨rfl, hB2, hk2, hz2⟩
   refine Zoa rfl rfl<|Zoa rfl rfl<|Ze<|X.ret2 (v2 := (.int .i64 _)) Zf10 Zr10 rfl rfl ?_
   exact .inr ⟨by omega, w1.heap.size, fun k => k = w1.heap.size ∨ k = w.heap.size, rfl, ⟨w.heap.size, none, 0, 0, [], fun _ => False, fun _ => False, hB2, Mine.nil _ _ _ _ _ _, (hG1.keep hk2), ⟨fun k p h => by simp at h, fun k v h => by simp [asc] at h, by simp, fun q h => by simp at h⟩, ⟨by omega, id, id, id, id, fun k h => h.elim, .inl rfl, .inr rfl, fun k h => h.elim, fun k h => h.elim, fun k h => by omega⟩⟩, fun k h => by omega, (hk1.trans hk2)⟩
theorem Room_c {T : Nat → Prop} {bc : Nat} {s : Ca} (w : World) (hC : CaIn T w bc s) : Ret Tryz.prog 30 #[ptrV bc] w fun r w' => r = .int .i64 s.room ∧ Keep w w' := by
 obtain ⟨bm, A, n, c, mm, TR, TD, hB, hM, hG, hP, hS⟩ := hC
 have hC0 : CaIn T w bc s := ⟨bm, A, n, c, mm, TR, TD, hB, hM, hG, hP, hS⟩
 refine X.enter Tryz.func30 rfl Tryz.ntmps30 rfl<|Zs<|Zr<|Zoa rfl rfl<|Ze<|Zs<|Zs<|Zr<|Zom rfl rfl<|Zc (X.callE (is_c_cache _ hB) Zc38 rfl rfl) rfl ?_
 rintro _ w1 ⟨rfl, hk1⟩
 have hk1' := hk1.size
 refine Zo (X.not_ rfl) rfl<|Ze<|Zf rfl<|Zk<|Zs<|Zr<|Zom rfl rfl<|Zo (X.nilCk rfl) rfl<|Zo (X.fldB (j := 0) Zu105 rfl rfl Zs3 rfl) rfl<|Zo (X.load1B Zi3 (hB.keep hk1) rfl rfl) rfl<|Zoai rfl rfl<|Ze<|X.ret1 (v := (.int .i64 _)) Tryz.func30 Tryz.results30 rfl ?_
 exact ⟨rfl, hk1⟩
theorem Stats_c {T : Nat → Prop} {bc : Nat} {s : Ca} (w : World) (hC : CaIn T w bc s) : Ret Tryz.prog 25 #[ptrV bc] w fun r w' => r = .agg #[.int .i64 s.h, .int .i64 s.m, .int .i64 s.g] ∧ Keep w w' := by
 obtain ⟨bm, A, n, c, mm, TR, TD, hB, hM, hG, hP, hS⟩ := hC
 have hC0 : CaIn T w bc s := ⟨bm, A, n, c, mm, TR, TD, hB, hM, hG, hP, hS⟩
 refine X.enter Tryz.func25 rfl Tryz.ntmps25 rfl<|Zs<|Zr<|Zc (X.allocE Tryz.zeroValue61 rfl) rfl ?_
 rintro _ w1 ⟨rfl, hB1, hk1, hz1⟩
 refine Ze<|Zs<|Zs<|Zr<|Zom rfl rfl<|Zc (X.callE (is_c_cache _ (hB.keep hk1)) Zc38 rfl rfl) rfl ?_
 rintro _ w2 ⟨rfl, hk2⟩
 have hk2' := hk2.size
 refine Zo (X.not_ rfl) rfl<|Ze<|Zf rfl<|Zk<|Zs<|Zr<|Zom rfl rfl<|Zo (X.nilCk rfl) rfl<|Zo (X.fldB (j := 3) Zu105 rfl rfl Zs61 rfl) rfl<|Zo (X.loadNB Tryz.isAgg61 Zs61 (hB.keep (hk1.trans hk2)) rfl rfl rfl) rfl<|Zc (X.storeNE Zs61 (hB1.keep hk2) rfl rfl rfl rfl (fun u hu => by simp at hu; rcases hu with rfl | rfl | rfl <;> rfl)) rfl ?_
 rintro _ w3 ⟨hB3, hx3, hz3⟩
 refine Ze ?_
 refine X.ret_unw (X.unwR1 Tryz.func25 Tryz.results25 (X.ResOk.cell rfl (X.lvN Tryz.isAgg61 Zs61 hB3 rfl)) ?_)
 exact ⟨rfl, ((hk1.trans hk2).step hx3 zq34)⟩
theorem Keys_c {T : Nat → Prop} {bc : Nat} {s : Ca} (w : World) (hC : CaIn T w bc s) (hn0 : s.L.length ≤ 100000) : Ret Tryz.prog 23 #[ptrV bc] w fun r w' => ∃ A' c', r = .slice A' (s.L.map (·.1)).length c' ∧ (s.L.map (·.1)).length ≤ c' ∧ Mine KPk 69 (fun k => w.heap.size ≤ k ∧ k < w'.heap.size) 0 0 w' (.slice A' (s.L.map (·.1)).length c') (s.L.map (·.1)) ∧ Keep w w' := by
 obtain ⟨bm, A, n, c, mm, TR, TD, hB, hM, hG, hP, hS⟩ := hC
 have hC0 : CaIn T w bc s := ⟨bm, A, n, c, mm, TR, TD, hB, hM, hG, hP, hS⟩
 have hn : n ≤ 1000000 := by have := hM.len; rw [List.length_map] at this; omega
 refine X.enter Tryz.func23 rfl Tryz.ntmps23 rfl<|Zs<|Zr<|Zoa rfl rfl<|Ze<|Zs<|Zs<|Zr<|Zom rfl rfl<|Zc (X.callE (is_c_cache _ hB) Zc38 rfl rfl) rfl ?_
 rintro _ w1 ⟨rfl, hk1⟩
 have hk1' := hk1.size
 refine Zo (X.not_ rfl) rfl<|Ze<|Zf rfl<|Zk<|Zs<|Zr<|Zom rfl rfl<|Zo (X.nilCk rfl) rfl<|Zo (X.fldB (j := 2) Zu105 rfl rfl Zs103 rfl) rfl<|Zo (X.fldB (j := 2) Zu103 rfl rfl Zs58 rfl) rfl<|Zo (X.load1B Zi58 (hB.keep hk1) rfl rfl) rfl<|Zc (X.callE (CloneK_c _ (mine_0 KPk_flat (hM.keep hk1) 0 (fun _ _ => Nat.zero_le _)) hn) Tryz.call58 rfl rfl) rfl ?_
 rintro _ w2 ⟨Ak, ck, rfl, hck, hMk, hk2⟩
 have hk2' := hk2.size
 refine Zoa rfl rfl<|Ze<|X.ret1 Tryz.func23 Tryz.results23 rfl ?_
 have hl := hM.len
 rw [← hl] at hck hMk
 exact ⟨Ak, ck, by rw [hl]; rfl, hck, hMk.mono fun k hk h => ⟨by omega, hk⟩, (hk1.trans hk2)⟩
def Told (S : Nat → Prop) (w : World) (v : Value) (p : List CD) : Prop := ∃ A c l TB, v = .slice A p.length c ∧ p.length ≤ c ∧ Mine KCt 92 (fun q => S q ∧ ¬ TB q) 0 0 w (.slice A p.length c) l ∧ Tups TB w l p ∧ ∀ q, TB q → S q
theorem Told.nil (S : Nat → Prop) (w : World) : Told S w (.slice none 0 0) [] := ⟨none, 0, [], fun _ => False, rfl, Nat.le_refl _, Mine.nil _ _ _ _ _ _, trivial, fun _ h => h.elim⟩
theorem Told.ext {S U : Nat → Prop} {w w' : World} {v : Value} {p : List CD} (h : Told S w v p) (x : Ext U w w') (hU : ∀ q, S q → ¬ U q) : Told S w' v p :=
  let ⟨A, c, l, TB, h1, h2, h3, h4, h5⟩ := h; ⟨A, c, l, TB, h1, h2, h3.ext x (fun k a b => by omega) (fun k a => hU k a.1), h4.ext x (fun k a => hU k (h5 k a)), h5⟩
theorem Told.keep {S : Nat → Prop} {w w' : World} {v : Value} {p : List CD} (h : Told S w v p) (x : Keep w w') : Told S w' v p := h.ext x fun _ _ h => h
theorem Told.mono {S S' : Nat → Prop} {w : World} {v : Value} {p : List CD} (h : Told S w v p) (hS : ∀ q, S q → S' q) : Told S' w v p :=
  let ⟨A, c, l, TB, h1, h2, h3, h4, h5⟩ := h; ⟨A, c, l, TB, h1, h2, h3.mono (fun k _ a => ⟨hS k a.1, a.2⟩), h4, fun k a => hS k (h5 k a)⟩
theorem own_t {lo hi : Nat} {A : Option Addr} {n c : Nat} {pg : List CD} (w : World) (hs : Sl KC lo hi w A n pg) (hhi : hi ≤ w.heap.size) (hok : okPg pg) : Ret Tryz.prog 59 #[.slice A n c] w fun r w' => Told (fun q => w.heap.size ≤ q ∧ q < w'.heap.size) w' r pg ∧ Keep w w' :=
  (own_c w hs hhi hok).mono fun r w' ⟨A', c', l, TB, h1, h2, h3, h4, h5, h6⟩ => by
    have hn := hs.len
    subst hn
    exact ⟨⟨A', c', l, TB, h1, h2, h3.mono (fun k _ h => ⟨⟨h.1, h.2.1⟩, h.2.2⟩), h4, h5⟩, h6⟩
theorem Told.pg {a b : Nat} {w : World} {v : Value} {p : List CD} (h : Told (fun q => a ≤ q ∧ q < b) w v p) (hb : b ≤ w.heap.size) : PgV (fun q => a ≤ q ∧ q < b) w v p := by
  obtain ⟨A, c, l, TB, h1, h2, h3, h4, h5⟩ := h
  obtain ⟨A', c', e1, _, hs⟩ := (h3.flat KCt_flat (lo' := a) (hi' := b)).sl (fun k _ hk => hk.1)
  injection e1 with e1 e2 e3
  rw [← e1, ← e2] at hs
  exact ⟨A, c, a, b, h1, h2, fun _ x y => ⟨x, y⟩, hb, h4.sl hs h5⟩
def Ca.get (s : Ca) (k : PKEY) : Ca := match asc k s.L with
  | none => { s with m := s.m + 1 }
  | some p => { s with h := s.h + 1, L := (k, p) :: s.L.filter fun q => decide (q.1 ≠ k) }
theorem map_filter_ne (k : PKEY) (L : PGS) : (L.filter fun q => decide (q.1 ≠ k)).map (·.1) = (L.map (·.1)).filter fun x => decide (x ≠ k) := by
  rw [List.filter_map]; rfl
theorem Pgs.front {TD : Nat → Prop} {w : World} {mm : List (PKEY × Value)} {L : PGS} {k : PKEY} {p : List CD} (h : Pgs TD w mm L) (hp : (k, p) ∈ L) : Pgs TD w mm ((k, p) :: L.filter fun q => decide (q.1 ≠ k)) := by
  refine ⟨fun k' p' hp' => ?_, fun k' v hv => ?_, ?_, fun q hq => ?_⟩
  · rcases List.mem_cons.1 hp' with e | hp'
    · cases e; exact h.there k p hp
    · exact h.there k' p' (List.mem_filter.1 hp').1
  · rw [List.map_cons, map_filter_ne]
    by_cases e : k' = k
    · rw [e]; exact List.mem_cons_self
    · exact List.mem_cons_of_mem _ (List.mem_filter.2 ⟨h.only k' v hv, by simpa using e⟩)
  · rw [List.map_cons, map_filter_ne, List.nodup_cons]
    exact ⟨fun h => by have := (List.mem_filter.1 h).2; simp at this, h.nd.filter _⟩
  · rcases List.mem_cons.1 hq with rfl | hq
    · exact h.ok _ hp
    · exact h.ok q (List.mem_filter.1 hq).1
theorem Sep.grow {T TR TD : Nat → Prop} {bc bm a b : Nat} {w w' : World} (h : Sep T TR TD bc bm w) (ha : w.heap.size ≤ a) (hb : b ≤ w'.heap.size) (x : w.heap.size ≤ w'.heap.size) : Sep (fun q => T q ∨ (a ≤ q ∧ q < b)) (fun q => TR q ∨ (a ≤ q ∧ q < b)) TD bc bm w' :=
  ⟨h.cm, fun e => e.elim h.rc (fun e => by have := h.lt _ h.tc; omega), fun e => e.elim h.rm (fun e => by have := h.lt _ h.tm; omega), h.dc, h.dm, fun k e hd => e.elim (fun e => h.rd k e hd) (fun e => by have := h.lt _ (h.td k hd); omega), .inl h.tc, .inl h.tm, fun k e => e.imp (h.tr k) id, fun k e => .inl (h.td k e), fun k e => e.elim (fun e => by have := h.lt k e; omega) (fun e => by omega)⟩
theorem Get_c {T : Nat → Prop} {bc : Nat} {s : Ca} (k : PKEY) (w : World) (hC : CaIn T w bc s) (hLn : s.L.length ≤ 10000) (hh : -1000000 ≤ s.h ∧ s.h ≤ 1000000) (hms : -1000000 ≤ s.m ∧ s.m ≤ 1000000) : Ret Tryz.prog 29 #[ptrV bc, encPK k] w fun r w' => ∃ a b, w.heap.size ≤ a ∧ a ≤ b ∧ b ≤ w'.heap.size ∧ (∃ v, r = .tuple #[v, .bool (asc k s.L).isSome] ∧ Told (fun q => b ≤ q ∧ q < w'.heap.size) w' v ((asc k s.L).getD [])) ∧ CaIn (fun q => T q ∨ (a ≤ q ∧ q < b)) w' bc (s.get k) ∧ Ext T w w' := by
 obtain ⟨bm, A, n, c, mm, TR, TD, hB, hM, hG, hP, hS⟩ := hC
 have hbcl := hB.lt
 have hbml := hG.lt
 have hnl := hM.len
 rw [List.length_map] at hnl
 have hUd : ∀ q, TD q → ¬ (q = bc ∨ TR q ∨ w.heap.size ≤ q) := fun q h h2 => h2.elim (fun e => hS.dc (by rw [← e]; exact h)) (fun h2 => h2.elim (fun h3 => hS.rd q h3 h) (fun h3 => by have := hS.lt q (hS.td q h); omega))
 have hUm : ¬ (bm = bc ∨ TR bm ∨ w.heap.size ≤ bm) := fun h => h.elim (fun e => hS.cm e.symm) (fun h => h.elim hS.rm (fun h => by omega))
 have hSw : ∀ q, TR q → q < w.heap.size := fun q h => hS.lt q (hS.tr q h)
 have hUT : ∀ q, q < w.heap.size → (q = bc ∨ TR q ∨ w.heap.size ≤ q) → T q := fun q hq h => h.elim (fun e => by rw [e]; exact hS.tc) (fun h => h.elim (hS.tr q) (fun h => by omega))
 refine X.enter Zf29 rfl Tryz.ntmps29 rfl<|Zs<|Zr<|Zc (X.boxE rfl rfl) rfl ?_
 rintro _ w1 ⟨rfl, hB1, hk1, hz1⟩
 refine Zoa rfl rfl<|Zoa rfl rfl<|Ze<|Zs<|Zs<|Zr<|Zom rfl rfl<|Zc (X.callE (is_c_cache _ (hB.keep hk1)) Zc38 rfl rfl) rfl ?_
 rintro _ w2 ⟨rfl, hk2⟩
 have hk2' := hk2.size
 refine Zo (X.not_ rfl) rfl<|Ze<|Zf rfl<|Zk<|Zs<|X.regionD (fun _ => False) 10 Zl Zl (fun w3 hk3 hz3 => ?_)
 refine ZDc 0 rfl Zl (X.move rfl)<|ZDc 1 rfl Zl (X.nilCk rfl)<|ZDc 2 rfl Zl (X.fldB (j := 1) Zu105 rfl rfl Zs101 rfl)<|ZD 3 rfl Zl (fun w' hk' => X.load1B Zi101 (hB.keep (((hk1.trans hk2).trans hk3).trans hk')) rfl rfl)<|ZD 4 rfl Zl (fun w' hk' => X.loadNB Zi69 Zs69 (hB1.keep ((hk2.trans hk3).trans hk')) rfl rfl rfl)<|ZD 5 rfl Zl (fun w' hk' => X.lookupOkV (enc := (fun x : PKEY => encPK x)) (venc := (fun v : Value => v)) (z := (Value.slice none 0 0)) Zu101 keyPk Tryz.zeroValue29 ((hG.ext (Ext.andThen (Ext.andThen (Ext.andThen (Ext.refl (fun q => q = bc ∨ TR q ∨ w.heap.size ≤ q) _) hk1 zq6) hk2 zq6) hk3 zq6) hUm).keep hk') rfl rfl) ?_
 refine ZDc 6 rfl Zl (X.move rfl)<|ZDc 7 rfl Zl (X.extr rfl rfl)<|ZDc 8 rfl Zl (X.extr rfl rfl)<|ZDc 9 rfl Zl (X.assign rfl)<|X.dStep (i := 10) Zl rfl (X.dwN rfl) (X.assign (v := .bool _) rfl) (fun h => absurd h (by decide))<|Zdend Zl<|Zs<|Zs<|Zr<|Zomo rfl rfl<|Zo (X.not_ rfl) rfl<|Ze<|X.condB rfl (fun hc => ?_) (fun hc => ?_)
 ·have haL : asc k s.L = none := by
    rw [asc_none]
    intro q hq e
    obtain ⟨v, hv, _⟩ := hP.there q.1 q.2 hq
    rw [e] at hv
    rw [hv] at hc; simp at hc
  refine Zs<|Zr<|Zom rfl rfl<|Zo (X.nilCk rfl) rfl<|Zo (X.fldB (j := 3) Zu105 rfl rfl Zs61 rfl) rfl<|Zo (X.fldB (j := 4) Zu61 rfl rfl Zs3 rfl) rfl<|Zo (X.load1B Zi3 (hB.keep ((hk1.trans hk2).trans hk3)) rfl rfl) rfl<|Zo (X.add (c := s.m + 1) rfl rfl (X.w_i64 Zz)) rfl<|Zo (X.nilCk rfl) rfl<|Zo (X.fldB (j := 3) Zu105 rfl rfl Zs61 rfl) rfl<|Zo (X.fldB (j := 4) Zu61 rfl rfl Zs3 rfl) rfl<|Zc (X.storeE Zs3 (hB.keep ((hk1.trans hk2).trans hk3)) rfl rfl rfl rfl) rfl ?_
  rintro _ w4 ⟨hB4, hx4, hz4⟩
  refine Ze<|Zs<|Zr<|Zoa rfl rfl<|Zoa rfl rfl<|Ze<|X.ret2 (v2 := (.bool _)) Zf29 Tryz.results29 rfl rfl ?_
  rw [show Ca.get s k = { s with m := s.m + 1 } by simp [Ca.get, haL], haL]
  have hkx := (Ext.andThen (Ext.andThen (Ext.andThen (Ext.andThen (Ext.refl (fun q => q = bc ∨ TR q ∨ w.heap.size ≤ q) _) hk1 zq6) hk2 zq6) hk3 zq6) hx4 zq6)
  refine ⟨w.heap.size, w.heap.size, Nat.le_refl _, Nat.le_refl _, hkx.size, ⟨_, rfl, Told.nil _ _⟩, ⟨bm, A, n, c, mm, TR, TD, hB4, ((((hM.keep hk1).keep hk2).keep hk3).ext hx4 (by intros; omega) (fun q h1 h2 => hS.rc (by rw [← (show q = bc from h2)]; exact h1))), hG.ext hkx hUm, hP.ext hkx hUd, ?_⟩, hkx.mono hUT⟩
  exact { hS.up hkx.size with tc := .inl hS.tc, tm := .inl hS.tm, tr := fun q h => .inl (hS.tr q h), td := fun q h => .inl (hS.td q h), lt := fun q h => h.elim (fun h => (hS.up hkx.size).lt q h) (fun h => by omega) }
 ·obtain ⟨v0, hv0⟩ : ∃ v0, asc k mm = some v0 := by
    cases ha : asc k mm with
    | none => rw [ha] at hc; simp at hc
    | some v => exact ⟨v, rfl⟩
  obtain ⟨⟨k0, p⟩, hpm, hk0⟩ := List.mem_map.1 (hP.only k v0 hv0)
  simp only at hk0
  subst hk0
  obtain ⟨v1, hv1, A0, c0, lo0, hi0, hve, hc0, hpT, hhi0, hpsl⟩ := hP.there _ _ hpm
  rw [hv0] at hv1
  cases hv1
  subst hve
  rw [hv0]
  have haL := asc_mem hP.nd hpm
  refine Zk<|Zs<|Zr<|Zom rfl rfl<|Zo (X.nilCk rfl) rfl<|Zo (X.fldB (j := 3) Zu105 rfl rfl Zs61 rfl) rfl<|Zo (X.fldB (j := 3) Zu61 rfl rfl Zs3 rfl) rfl<|Zo (X.load1B Zi3 (hB.keep ((hk1.trans hk2).trans hk3)) rfl rfl) rfl<|Zo (X.add (c := s.h + 1) rfl rfl (X.w_i64 Zz)) rfl<|Zo (X.nilCk rfl) rfl<|Zo (X.fldB (j := 3) Zu105 rfl rfl Zs61 rfl) rfl<|Zo (X.fldB (j := 3) Zu61 rfl rfl Zs3 rfl) rfl<|Zc (X.storeE Zs3 (hB.keep ((hk1.trans hk2).trans hk3)) rfl rfl rfl rfl) rfl ?_
  rintro _ w5 ⟨hB5, hx5, hz5⟩
  refine Ze<|Zs<|X.regionD (fun _ => False) 4 Zl Zl (fun w6 hk6 hz6 => ?_)
  refine ZD 3 rfl Zl (fun w' hk' => X.loadNB Zi69 Zs69 (((hB1.keep (hk2.trans hk3)).ext hx5 (by intros; (try simp only []); first | omega | (intro hq; have hq2 := hq; (try simp only [] at hq2); omega))).keep (hk6.trans hk')) rfl rfl rfl) ?_
  refine X.dStep (i := 0) Zl rfl (X.dwN rfl) (X.move rfl) (fun _ => Ext.refl _ _)<|X.dStep (i := 1) Zl rfl (X.dwN rfl) (X.nilCk rfl) (fun _ => Ext.refl _ _)<|ZDc 2 rfl Zl (X.fldB (j := 2) Zu105 rfl rfl Zs103 rfl)<|X.dE (i := 4) Zl rfl (X.dwN rfl) (X.callE (touch_c _ _ (show Blk _ bc (caL s.room (some bm) A n c (s.h + 1) s.m s.g) _ from (hB5.keep hk6)) (((((hM.keep hk1).keep hk2).keep hk3).ext hx5 (by intros; omega) (fun q h1 h2 => hS.rc (by rw [← (show q = bc from h2)]; exact h1))).keep hk6) hS.rc Zz hP.nd (fun q h => by have := hSw q h; omega)) Tryz.call60 rfl rfl) (fun _ _ _ h => absurd h (by decide)) ?_
  rintro _ w7 ⟨rfl, Aq, nq, cq, hBq, hMq, hx7⟩
  have hx7' := hx7.size
  refine Zdend Zl<|Zs<|Zr<|Zom rfl rfl<|Zc (X.callE (own_t _ (hpsl.ext (Ext.andThen (Ext.andThen (Ext.andThen (Ext.andThen (Ext.andThen (Ext.andThen (Ext.refl (fun q => q = bc ∨ TR q ∨ w.heap.size ≤ q) _) hk1 zq6) hk2 zq6) hk3 zq6) hx5 zq6) hk6 zq6) hx7 zq6) (fun q a b => hUd q (hpT q a b))) Zz (hP.ok _ hpm)) Tryz.call59 rfl rfl) rfl ?_
  rintro v8 w8 ⟨hTo, hk8⟩
  have hk8' := hk8.size
  refine Zoa rfl rfl<|Zoa rfl rfl<|Ze<|X.ret2 (v2 := (.bool _)) Zf29 Tryz.results29 rfl rfl ?_
  have hget : Ca.get s k0 = { s with h := s.h + 1, L := (k0, p) :: s.L.filter fun q => decide (q.1 ≠ k0) } := by simp only [Ca.get, haL]
  rw [hget, haL]
  have hkx := (Ext.andThen (Ext.andThen (Ext.andThen (Ext.andThen (Ext.andThen (Ext.andThen (Ext.andThen (Ext.refl (fun q => q = bc ∨ TR q ∨ w.heap.size ≤ q) _) hk1 zq6) hk2 zq6) hk3 zq6) hx5 zq6) hk6 zq6) hx7 zq6) hk8 zq6)
  refine ⟨w6.heap.size, w7.heap.size, by omega, by omega, by omega, ⟨_, rfl, hTo.mono fun q h => ⟨by omega, h.2⟩⟩, ⟨bm, Aq, nq, cq, mm, _, TD, (hBq.keep hk8), ?_, hG.ext hkx hUm, (hP.ext hkx hUd).front hpm, hS.grow Zz Zz hkx.size⟩, hkx.mono hUT⟩
  rw [show (List.map (·.1) ((k0, p) :: s.L.filter fun q => decide (q.1 ≠ k0))) = k0 :: (s.L.map (·.1)).filter fun x => decide (x ≠ k0) by rw [List.map_cons, map_filter_ne]]
  exact ((hMq.mono (T := fun q => TR q ∨ (w6.heap.size ≤ q ∧ q < w7.heap.size)) (fun q hq h => h.imp id (fun h => ⟨h, hq⟩))).keep hk8)
def Ca.put (s : Ca) (k : PKEY) (p : List CD) : Ca := if s.room = 0 then s else
  if s.room < (((k, p) :: s.L.filter fun q => decide (q.1 ≠ k)).length : Int) then { s with L := ((k, p) :: s.L.filter fun q => decide (q.1 ≠ k)).dropLast, g := s.g + 1 }
  else { s with L := (k, p) :: s.L.filter fun q => decide (q.1 ≠ k) }
def Ca.drop (s : Ca) (nm : ByteArray) : Ca := { s with L := s.L.filter fun q => decide (q.1.1 ≠ nm) }
theorem Pgs.put {TD : Nat → Prop} {w : World} {mm : List (PKEY × Value)} {L : PGS} {k : PKEY} {p : List CD} {v : Value} (h : Pgs TD w mm L) (hv : PgV TD w v p) (hok : okPg p) : Pgs TD w (put k v mm) ((k, p) :: L.filter fun q => decide (q.1 ≠ k)) := by
  refine ⟨fun k' p' hp' => ?_, fun k' u hu => ?_, ?_, fun q hq => ?_⟩
  · rcases List.mem_cons.1 hp' with e | hp'
    · cases e; exact ⟨v, by rw [asc_put, if_pos rfl], hv⟩
    · obtain ⟨h1, h2⟩ := List.mem_filter.1 hp'
      obtain ⟨u, h3, h4⟩ := h.there k' p' h1
      exact ⟨u, by rw [asc_put, if_neg (by simpa using h2)]; exact h3, h4⟩
  · rw [List.map_cons, map_filter_ne]
    rw [asc_put] at hu
    by_cases e : k' = k
    · rw [e]; exact List.mem_cons_self
    · rw [if_neg e] at hu
      exact List.mem_cons_of_mem _ (List.mem_filter.2 ⟨h.only k' u hu, by simpa using e⟩)
  · rw [List.map_cons, map_filter_ne, List.nodup_cons]
    exact ⟨fun h => by have := (List.mem_filter.1 h).2; simp at this, h.nd.filter _⟩
  · rcases List.mem_cons.1 hq with rfl | hq
    · exact hok
    · exact h.ok q (List.mem_filter.1 hq).1
theorem Pgs.del {TD : Nat → Prop} {w : World} {mm : List (PKEY × Value)} {L : PGS} {x : PKEY} (h : Pgs TD w mm L) (hn : (mm.map (·.1)).Nodup) : Pgs TD w (del x mm) (L.filter fun q => decide (q.1 ≠ x)) := by
  refine ⟨fun k' p' hp' => ?_, fun k' u hu => ?_, ?_, fun q hq => h.ok q (List.mem_filter.1 hq).1⟩
  · obtain ⟨h1, h2⟩ := List.mem_filter.1 hp'
    obtain ⟨u, h3, h4⟩ := h.there k' p' h1
    exact ⟨u, by rw [asc_del hn, if_neg (by simpa using h2)]; exact h3, h4⟩
  · rw [asc_del hn] at hu
    split at hu
    · cases hu
    · rename_i e
      rw [map_filter_ne]
      exact List.mem_filter.2 ⟨h.only k' u hu, by simpa using e⟩
  · rw [map_filter_ne]; exact h.nd.filter _
theorem last_filter {L : PGS} {n : Nat} {x : PKEY × List CD} (hn : (L.map (·.1)).Nodup) (hl : L.length = n + 1) (hx : L[n]? = some x) : L.filter (fun q => decide (q.1 ≠ x.1)) = L.dropLast := by
  obtain ⟨M, hM⟩ : ∃ M, L = M ++ [x] := by
    refine ⟨L.take n, ?_⟩
    have := take_at hx
    rwa [List.take_of_length_le Zz] at this
  subst hM
  rw [List.dropLast_concat, List.filter_append, List.filter_cons, if_neg (by simp), List.filter_nil, List.append_nil, List.filter_eq_self]
  intro q hq
  rw [List.map_append, List.nodup_append] at hn
  simp only [decide_eq_true_eq]
  exact fun e => hn.2.2 q.1 (List.mem_map.2 ⟨q, hq, rfl⟩) x.1 (by simp) e
theorem mv_fst {κ ν μ : Type} (f : ν → μ) (m : List (κ × ν)) : (mv f m).map (·.1) = m.map (·.1) := by
  rw [mv, List.map_map]; rfl
theorem Mp_nd {w : World} {b : Nat} {mm : List (PKEY × Value)} (h : MPK w b mm) : (mm.map (·.1)).Nodup := by have := h.nodup; rwa [mv_fst] at this
theorem Put_c {T : Nat → Prop} {bc : Nat} {s : Ca} (k : PKEY) (w : World) (hC : CaIn T w bc s) {A2 : Option Addr} {n2 c2 lo2 hi2 : Nat} {pg : List CD} (hpg : Sl KC lo2 hi2 w A2 n2 pg) (hhi2 : hi2 ≤ w.heap.size) (hok : okPg pg) (hLn : s.L.length ≤ 10000) (hg : -1000000 ≤ s.g ∧ s.g ≤ 1000000) (hrm : 0 ≤ s.room) : Ret Tryz.prog 26 #[ptrV bc, encPK k, .slice A2 n2 c2] w fun r w' => r = .tuple #[] ∧ CaIn (fun q => T q ∨ (w.heap.size ≤ q ∧ q < w'.heap.size)) w' bc (s.put k pg) ∧ Ext T w w' := by
 obtain ⟨bm, A, n, c, mm, TR, TD, hB, hM, hG, hP, hS⟩ := hC
 have hbcl := hB.lt
 have hbml := hG.lt
 have hnl := hM.len
 rw [List.length_map] at hnl
 have hUd : ∀ q, TD q → ¬ (q = bc ∨ TR q ∨ w.heap.size ≤ q) := fun q h h2 => h2.elim (fun e => hS.dc (by rw [← e]; exact h)) (fun h2 => h2.elim (fun h3 => hS.rd q h3 h) (fun h3 => by have := hS.lt q (hS.td q h); omega))
 have hUm : ¬ (bm = bc ∨ TR bm ∨ w.heap.size ≤ bm) := fun h => h.elim (fun e => hS.cm e.symm) (fun h => h.elim hS.rm (fun h => by omega))
 have hSw : ∀ q, TR q → q < w.heap.size := fun q h => hS.lt q (hS.tr q h)
 have hUT : ∀ q, q < w.heap.size → (q = bc ∨ TR q ∨ w.heap.size ≤ q) → T q := fun q hq h => h.elim (fun e => by rw [e]; exact hS.tc) (fun h => h.elim (hS.tr q) (fun h => by omega))
 have hPd : ∀ q, TD q → ¬ (q = bc ∨ q = bm ∨ TR q ∨ w.heap.size ≤ q) := fun q h h2 => h2.elim (fun e => hS.dc (by rw [← e]; exact h)) (fun h2 => h2.elim (fun e => hS.dm (by rw [← e]; exact h)) (fun h2 => h2.elim (fun h3 => hS.rd q h3 h) (fun h3 => by have := hS.lt q (hS.td q h); omega)))
 have hPT : ∀ q, q < w.heap.size → (q = bc ∨ q = bm ∨ TR q ∨ w.heap.size ≤ q) → T q := fun q hq h => h.elim (fun e => by rw [e]; exact hS.tc) (fun h => h.elim (fun e => by rw [e]; exact hS.tm) (fun h => h.elim (hS.tr q) (fun h => by omega)))
 have hUm2 : ¬ (bm = bc ∨ TR bm ∨ w.heap.size ≤ bm) := hUm
 have hn2 := hpg.len
 refine X.enter Zf26 rfl Tryz.ntmps26 rfl<|Zs<|Zr<|Zc (X.boxE rfl rfl) rfl ?_
 rintro _ w1 ⟨rfl, hB1, hk1, hz1⟩
 refine Ze<|Zs<|Zs<|Zr<|Zom rfl rfl<|Zc (X.callE (is_c_cache _ (hB.keep hk1)) Zc38 rfl rfl) rfl ?_
 rintro _ w2 ⟨rfl, hk2⟩
 have hk2' := hk2.size
 refine Zo (X.not_ rfl) rfl<|Zomf rfl rfl<|Zg (X.move rfl) rfl rfl rfl rfl<|Zg (X.nilCk rfl) rfl rfl rfl rfl<|Zg (X.fldB (j := 0) Zu105 rfl rfl Zs3 rfl) rfl rfl rfl rfl<|Zg (X.load1B Zi3 (hB.keep (hk1.trans hk2)) rfl rfl) rfl rfl rfl rfl<|X.opP (X.wG rfl rfl rfl) rfl rfl (X.eqI rfl rfl) (fun h16 => ?_) (fun h16 => ?_)
 ·refine Zo (ZdFt rfl rfl) rfl<|Ze<|Zt rfl<|X.ret0 Zf26 Zr26 ?_
  have h0 : s.room = 0 := by omega
  rw [show s.put k pg = s by rw [Ca.put, if_pos h0]]
  have hkx := (hk1.trans hk2)
  exact ⟨rfl, ⟨bm, A, n, c, mm, TR, TD, (hB.keep (hk1.trans hk2)), hM.keep hkx, hG.keep hkx, hP.ext hkx (fun _ _ h => h), { hS.up hkx.size with tc := .inl hS.tc, tm := .inl hS.tm, tr := fun q h => .inl (hS.tr q h), td := fun q h => .inl (hS.td q h), lt := fun q h => h.elim (fun h => (hS.up hkx.size).lt q h) (fun h => h.2) }⟩, hkx.mono fun _ _ h => h.elim⟩
 ·refine Zo (ZdFf rfl rfl) rfl<|Ze<|Zf rfl<|Zk<|Zs<|X.regionD (fun _ => False) 7 Zl Zl (fun w3 hk3 hz3 => ?_)
  refine ZDc 0 rfl Zl (X.move rfl)<|ZDc 1 rfl Zl (X.nilCk rfl)<|ZDc 2 rfl Zl (X.fldB (j := 1) Zu105 rfl rfl Zs101 rfl)<|ZD 3 rfl Zl (fun w' hk' => X.load1B Zi101 (hB.keep (((hk1.trans hk2).trans hk3).trans hk')) rfl rfl)<|ZD 4 rfl Zl (fun w' hk' => X.loadNB Zi69 Zs69 (hB1.keep ((hk2.trans hk3).trans hk')) rfl rfl rfl)<|ZDc 5 rfl Zl (Zdms rfl)<|X.dE (i := 6) Zl rfl (X.dwN rfl) (X.callE (own_t _ ((hpg.keep ((hk1.trans hk2).trans hk3))) Zz hok) Tryz.call59 rfl rfl) (by rintro vo w4 ⟨hTo, hk4⟩ _; exact hk4.mono (fun _ _ h => h.elim)) ?_
  rintro vo w4 ⟨hTo, hk4⟩
  have hk4' := hk4.size
  refine X.dE (i := 7) Zl rfl (X.dwN rfl) (X.updateV (enc := fun x : PKEY => encPK x) (venc := fun v : Value => v) (v := vo) Zu101 keyPk ((hG.ext (Ext.andThen (Ext.andThen (Ext.andThen (Ext.refl (fun q => q = bc ∨ TR q ∨ w.heap.size ≤ q) _) hk1 zq6) hk2 zq6) hk3 zq6) hUm).keep hk4) rfl rfl rfl) (fun _ _ _ h => absurd h (by decide)) ?_
  rintro _ w5 ⟨hGu, hx5, hz5⟩
  refine Zdend Zl<|Zs<|X.regionD (fun _ => False) 4 Zl Zl (fun w6 hk6 hz6 => ?_)
  refine ZD 3 rfl Zl (fun w' hk' => X.loadNB Zi69 Zs69 (((hB1.keep ((hk2.trans hk3).trans hk4)).ext hx5 zq9).keep (hk6.trans hk')) rfl rfl rfl) ?_
  refine X.dStep (i := 0) Zl rfl (X.dwN rfl) (X.move rfl) (fun _ => Ext.refl _ _)<|X.dStep (i := 1) Zl rfl (X.dwN rfl) (X.nilCk rfl) (fun _ => Ext.refl _ _)<|ZDc 2 rfl Zl (X.fldB (j := 2) Zu105 rfl rfl Zs103 rfl)<|X.dE (i := 4) Zl rfl (X.dwN rfl) (X.callE (touch_c k _ ((((((hB.keep hk1).keep hk2).keep hk3).keep hk4).ext hx5 (fun h => hS.cm h)).keep hk6) ((((((hM.keep hk1).keep hk2).keep hk3).keep hk4).ext hx5 (by intros; omega) (fun q h1 h2 => hS.rm (by rw [← (show q = bm from h2)]; exact h1))).keep hk6) hS.rc Zz hP.nd (fun q h => by have := hSw q h; omega)) Tryz.call60 rfl rfl) (fun _ _ _ h => absurd h (by decide)) ?_
  rintro _ w7 ⟨rfl, Aq, nq, cq, hBq, hMq, hx7⟩
  have hx7' := hx7.size
  refine Zdend Zl<|Zs<|Zr<|Zom rfl rfl<|Zo (X.nilCk rfl) rfl<|Zo (X.fldB (j := 2) Zu105 rfl rfl Zs103 rfl) rfl<|Zo (X.fldB (j := 2) Zu103 rfl rfl Zs58 rfl) rfl<|Zo (X.load1B Zi58 hBq rfl rfl) rfl ?_
  have hMt := hMq.mono (T := (fun q => TR q ∨ (w6.heap.size ≤ q ∧ q < w7.heap.size))) (fun q hq h => h.imp id (fun h => ⟨h, hq⟩))
  have hnq := hMt.len
  have hL1 : ((k, pg) :: s.L.filter fun q => decide (q.1 ≠ k)).length = nq := by have e := hMq.len; rw [List.length_cons] at e; rw [List.length_cons, ← e, ← map_filter_ne, List.length_map]
  have hnb : nq ≤ 10001 := by have := List.length_filter_le (fun q : PKEY × List CD => decide (q.1 ≠ k)) s.L; rw [List.length_cons] at hL1; omega
  have hpv := (hTo.pg (Nat.le_refl _))
  have hP1 : Pgs (fun q => TD q ∨ (w3.heap.size ≤ q ∧ q < w4.heap.size)) w7 (put k vo mm) ((k, pg) :: s.L.filter fun q => decide (q.1 ≠ k)) := by
    have h0 := hP.ext (Ext.andThen (Ext.andThen (Ext.andThen (Ext.andThen (Ext.andThen (Ext.andThen (Ext.andThen (Ext.refl (fun q => q = bc ∨ q = bm ∨ TR q ∨ w.heap.size ≤ q) _) hk1 zq4) hk2 zq4) hk3 zq4) hk4 zq4) hx5 zq4) hk6 zq4) hx7 zq4) hPd
    refine (h0.mono fun q h => .inl h).put ?_ hok
    exact (((((hTo.pg (Nat.le_refl _)).ext hx5 (fun q a b => by have b : q = bm := b; have := a.1; omega)).ext hk6 (fun _ _ h => h)).ext hx7 (fun q a b => b.elim (fun b => by have := a.1; omega) (fun b => b.elim (fun b => by have := hSw q b; have := a.1; omega) (fun b => by have := a.2; omega))))).mono fun q h => .inr h
  have hRm : ∀ q, TR q ∨ (w6.heap.size ≤ q ∧ q < w7.heap.size) → ¬ q = bm := fun q h e => h.elim (fun h => hS.rm (by rw [← e]; exact h)) (fun h => by omega)
  have hRc : ∀ q, TR q ∨ (w6.heap.size ≤ q ∧ q < w7.heap.size) → ¬ q = bc := fun q h e => h.elim (fun h => hS.rc (by rw [← e]; exact h)) (fun h => by omega)
  have hRl : ∀ q, TR q ∨ (w6.heap.size ≤ q ∧ q < w7.heap.size) → q < w7.heap.size := fun q h => h.elim (fun h => by have := hSw q h; omega) (fun h => h.2)
  refine Zo (X.lenSl Zu58 rfl) rfl<|Zoai rfl rfl<|Ze<|Zs<|Zr<|Zomi rfl rfl<|Zom rfl rfl<|Zo (X.nilCk rfl) rfl<|Zo (X.fldB (j := 0) Zu105 rfl rfl Zs3 rfl) rfl<|Zo (X.load1B Zi3 hBq rfl rfl) rfl<|X.opP X.wN rfl rfl (X.gtr rfl rfl) (fun h41 => ?_) (fun h41 => ?_)
  ·have hmk : (k :: (s.L.map (·.1)).filter fun x => decide (x ≠ k)) = ((k, pg) :: s.L.filter fun q => decide (q.1 ≠ k)).map (·.1) := by rw [List.map_cons, map_filter_ne]
   obtain ⟨lq, hlq⟩ := getL (l := (k, pg) :: s.L.filter fun q => decide (q.1 ≠ k)) (nq - 1) hL1 Zz
   have hlk : (k :: (s.L.map (·.1)).filter fun x => decide (x ≠ k))[nq - 1]? = some lq.1 := by rw [hmk, List.getElem?_map, hlq]; rfl
   refine Ze<|Zt rfl<|Zs<|Zr<|Zom rfl rfl<|Zo (X.nilCk rfl) rfl<|Zo (X.fldB (j := 2) Zu105 rfl rfl Zs103 rfl) rfl<|Zo (X.fldB (j := 2) Zu103 rfl rfl Zs58 rfl) rfl<|Zo (X.load1B Zi58 hBq rfl rfl) rfl<|Zomi rfl rfl<|Zo (X.sub (c := ((nq - 1 : Nat) : Int)) rfl rfl (by rw [X.w_i64 Zz]; omega)) rfl ?_
   refine Zo (X.idxS (mine_0 KPk_flat hMt 0 (fun _ _ => Nat.zero_le _)) Zu58 Zs69 rfl rfl ⟨by omega, by omega⟩) rfl<|Zo (X.loadSN Zi69 Zs69 (mine_0 KPk_flat hMt 0 (fun _ _ => Nat.zero_le _)) hlk rfl (fun _ h => h.1) rfl) rfl<|Zc (X.allocE Zv69 rfl) rfl ?_
   rintro _ w8 ⟨rfl, hB8, hk8, hz8⟩
   refine Zc (X.storeNE Zs69 hB8 rfl rfl rfl rfl (fun u hu => by simp at hu; rcases hu with rfl | rfl <;> rfl)) rfl ?_
   rintro _ w9 ⟨hB9, hx9, hz9⟩
   refine Ze<|Zs<|X.regionD (fun _ => False) 4 Zl Zl (fun w10 hk10 hz10 => ?_)
   refine ZD 3 rfl Zl (fun w' hk' => X.loadNB Zi69 Zs69 (hB9.keep (hk10.trans hk')) rfl rfl rfl)<|X.dStep (i := 0) Zl rfl (X.dwN rfl) (X.move rfl) (fun _ => Ext.refl _ _)<|X.dStep (i := 1) Zl rfl (X.dwN rfl) (X.nilCk rfl) (fun _ => Ext.refl _ _)<|ZDc 2 rfl Zl (X.fldB (j := 2) Zu105 rfl rfl Zs103 rfl)<|X.dE (i := 4) Zl rfl (X.dwN rfl) (X.callE (fdrop_c lq.1 _ (hBq.keep ((hk8.step hx9 zq34).trans hk10)) (((hMt.keep hk8).ext hx9 (by intros; omega) (fun q h1 h2 => by have := hRl q h1; have h2 : q = _ := h2; omega)).keep hk10) (fun h => h.elim hS.rc (fun h => by omega)) Zz (by rw [hmk]; exact (hP1).nd)) Zc39 rfl rfl) (fun _ _ _ h => absurd h (by decide)) ?_
   rintro _ w11 ⟨rfl, Ad, nd, cd, hBd, hMd, hx11⟩
   have hx11' := hx11.size
   refine Zdend Zl<|Zs<|X.regionD (fun _ => False) 5 Zl Zl (fun w12 hk12 hz12 => ?_)
   refine ZD 4 rfl Zl (fun w' hk' => X.loadNB Zi69 Zs69 (((hB9.keep hk10).ext hx11 zq9).keep (hk12.trans hk')) rfl rfl rfl) ?_
   refine X.dStep (i := 0) Zl rfl (X.dwN rfl) (X.move rfl) (fun _ => Ext.refl _ _)<|X.dStep (i := 1) Zl rfl (X.dwN rfl) (X.nilCk rfl) (fun _ => Ext.refl _ _)<|X.dStep (i := 2) Zl rfl (X.dwN rfl) (X.fldB (j := 1) Zu105 rfl rfl Zs101 rfl) (fun _ => Ext.refl _ _)<|ZD 3 rfl Zl (fun w' hk' => X.load1B Zi101 (hBd.keep (hk12.trans hk')) rfl rfl)<|X.dE (i := 5) Zl rfl (X.dwN rfl) (X.deleteV (enc := fun x : PKEY => encPK x) (venc := fun v : Value => v) (a := lq.1) Zu101 keyPk (((((((hGu.keep hk6).ext hx7 (fun h => h.elim (fun h => hS.cm h.symm) (fun h => h.elim hS.rm (fun h => by omega)))).keep hk8).ext hx9 (by (try simp only []); omega)).keep hk10).ext hx11 (fun h => h.elim (fun h => hS.cm h.symm) (fun h => hRm _ h rfl))).keep hk12) rfl rfl) (fun _ _ _ h => absurd h (by decide)) ?_
   rintro _ w13 ⟨rfl, hGd, hx13, hz13⟩
   refine Zdend Zl<|Zr<|Zom rfl rfl<|Zo (X.nilCk rfl) rfl<|Zo (X.fldB (j := 3) Zu105 rfl rfl Zs61 rfl) rfl<|Zo (X.fldB (j := 5) Zu61 rfl rfl Zs3 rfl) rfl<|Zo (X.load1B Zi3 ((hBd.keep hk12).ext hx13 zq9) rfl rfl) rfl ?_
   refine Zo (X.add (c := s.g + 1) rfl rfl (X.w_i64 Zz)) rfl<|Zo (X.nilCk rfl) rfl<|Zo (X.fldB (j := 3) Zu105 rfl rfl Zs61 rfl) rfl<|Zo (X.fldB (j := 5) Zu61 rfl rfl Zs3 rfl) rfl<|Zc (X.storeE Zs3 ((hBd.keep hk12).ext hx13 zq9) rfl rfl rfl rfl) rfl ?_
   rintro _ w14 ⟨hB14, hx14, hz14⟩
   refine Ze<|X.end0 Zf26 Zr26 ?_
   have hput : s.put k pg = { s with L := ((k, pg) :: s.L.filter fun q => decide (q.1 ≠ k)).dropLast, g := s.g + 1 } := by rw [Ca.put, if_neg Zz, if_pos (by rw [hL1]; omega)]
   have hlf := last_filter hP1.nd (show _ = (nq - 1) + 1 by rw [hL1]; omega) hlq
   rw [hput, ← hlf]
   have hkx := (Ext.andThen (Ext.andThen (Ext.andThen (Ext.andThen (Ext.andThen (Ext.andThen (Ext.andThen (Ext.andThen (Ext.andThen (Ext.andThen (Ext.andThen (Ext.andThen (Ext.andThen (Ext.andThen (Ext.refl (fun q => q = bc ∨ q = bm ∨ TR q ∨ w.heap.size ≤ q) _) hk1 zq4) hk2 zq4) hk3 zq4) hk4 zq4) hx5 zq4) hk6 zq4) hx7 zq4) hk8 zq4) hx9 zq4) hk10 zq4) hx11 zq4) hk12 zq4) hx13 zq4) hx14 zq4)
   refine ⟨rfl, ⟨bm, _, _, _, _, (fun q => TR q ∨ (w6.heap.size ≤ q ∧ q < w7.heap.size)), (fun q => TD q ∨ (w3.heap.size ≤ q ∧ q < w4.heap.size)), hB14, ?_, (hGd.ext hx14 (fun h => hS.cm h.symm)), ?_, ⟨hS.cm, fun e => hRc _ e rfl, fun e => hRm _ e rfl, fun e => e.elim hS.dc (fun e => by omega), fun e => e.elim hS.dm (fun e => by omega), fun q e hd => e.elim (fun e => hd.elim (hS.rd q e) (fun hd => by have := hSw q e; omega)) (fun e => hd.elim (fun hd => by have := hS.lt q (hS.td q hd); omega) (fun hd => by omega)), .inl hS.tc, .inl hS.tm, fun q e => e.imp (hS.tr q) (fun e => by omega), fun q e => e.imp (hS.td q) (fun e => by omega), fun q e => e.elim (fun e => by have := hS.lt q e; have := hkx.size; omega) (fun e => e.2)⟩⟩, hkx.mono hPT⟩
   ·dsimp only
    rw [map_filter_ne, ← hmk]
    exact (((hMd.keep hk12).ext hx13 (by intros; omega) (fun q h1 h2 => hRm q h1 h2)).ext hx14 (by intros; omega) (fun q h1 h2 => hRc q h1 h2))
   ·refine Pgs.ext ?_ (show Ext (fun q => q = bc ∨ q = bm ∨ (fun q => TR q ∨ (w6.heap.size ≤ q ∧ q < w7.heap.size)) q ∨ w7.heap.size ≤ q) w7 w14 from (Ext.andThen (Ext.andThen (Ext.andThen (Ext.andThen (Ext.andThen (Ext.andThen (Ext.andThen (Ext.refl _ _) hk8 zq8) hx9 zq8) hk10 zq8) hx11 zq8) hk12 zq8) hx13 zq8) hx14 zq8)) (fun q h h2 => ?_)
    ·exact hP1.del (Mp_nd hGu)
    ·exact h2.elim (fun e => h.elim (fun h => hS.dc (by rw [← e]; exact h)) (fun h => by omega)) (fun h2 => h2.elim (fun e => h.elim (fun h => hS.dm (by rw [← e]; exact h)) (fun h => by omega)) (fun h2 => h2.elim (fun h2 => h2.elim (fun h2 => h.elim (hS.rd q h2) (fun h => by have := hSw q h2; omega)) (fun h2 => h.elim (fun h => by have := hS.lt q (hS.td q h); omega) (fun h => by omega))) (fun h2 => h.elim (fun h => by have := hS.lt q (hS.td q h); omega) (fun h => by omega))))
  ·refine Ze<|Zf rfl<|Zk<|X.end0 Zf26 Zr26 ?_
   have hput : s.put k pg = { s with L := (k, pg) :: s.L.filter fun q => decide (q.1 ≠ k) } := by rw [Ca.put, if_neg Zz, if_neg (by rw [hL1]; omega)]
   rw [hput]
   have hkx := (Ext.andThen (Ext.andThen (Ext.andThen (Ext.andThen (Ext.andThen (Ext.andThen (Ext.andThen (Ext.refl (fun q => q = bc ∨ q = bm ∨ TR q ∨ w.heap.size ≤ q) _) hk1 zq4) hk2 zq4) hk3 zq4) hk4 zq4) hx5 zq4) hk6 zq4) hx7 zq4)
   refine ⟨rfl, ⟨bm, _, _, _, _, (fun q => TR q ∨ (w6.heap.size ≤ q ∧ q < w7.heap.size)), (fun q => TD q ∨ (w3.heap.size ≤ q ∧ q < w4.heap.size)), hBq, ?_, ((hGu.keep hk6).ext hx7 (fun h => h.elim (fun h => hS.cm h.symm) (fun h => h.elim hS.rm (fun h => by omega)))), hP1, ⟨hS.cm, fun e => hRc _ e rfl, fun e => hRm _ e rfl, fun e => e.elim hS.dc (fun e => by omega), fun e => e.elim hS.dm (fun e => by omega), fun q e hd => e.elim (fun e => hd.elim (hS.rd q e) (fun hd => by have := hSw q e; omega)) (fun e => hd.elim (fun hd => by have := hS.lt q (hS.td q hd); omega) (fun hd => by omega)), .inl hS.tc, .inl hS.tm, fun q e => e.imp (hS.tr q) (fun e => by omega), fun q e => e.imp (hS.td q) (fun e => by omega), fun q e => e.elim (fun e => by have := hS.lt q e; have := hkx.size; omega) (fun e => e.2)⟩⟩, hkx.mono hPT⟩
   dsimp only
   rw [List.map_cons, map_filter_ne]
   exact hMt
abbrev keyP (n : Int) : PKEY := (⟨#[97]⟩, n)
abbrev pageP (n : Int) : List CD := [([(1, n, ⟨#[]⟩)], 1)]
theorem pageP_ok (n : Int) : okPg (pageP n) := ⟨by simp, fun q hq => by simp at hq; rw [hq]; simp⟩
theorem litVI {w : World} {x : VAL} (h : okV x) : RepsV KV w [x] [.agg (encV x).toArray] := ⟨⟨encV x, rfl, rfl, h⟩, trivial⟩
theorem cd_step {p q : List CD} {i : Nat} {x y : CD} (h1 : p[i]? = some x) (h2 : q[i]? = some y) (ht : p.take i = q.take i) (h : x = y) : p.take (i + 1) = q.take (i + 1) := by rw [take_at h1, take_at h2, ht, h]
theorem key_c (n : Int) (w : World) : Ret Tryz.prog 27 #[.int .i64 n] w fun r w' => r = encPK (keyP n) ∧ Keep w w' := by
 refine X.enter Tryz.func27 rfl Tryz.ntmps27 rfl<|Zs<|Zr<|Zc (X.allocE Zv69 rfl) rfl ?_
 rintro _ w1 ⟨rfl, hB1, hk1, hz1⟩
 refine Ze<|Zs<|Zr<|Zomi rfl rfl<|Zo (X.buildB (vs := [(0, .string ⟨#[97]⟩), (1, .int .i64 n)]) (cs := #[.string ⟨#[97]⟩, .int .i64 n]) rfl Zl) rfl<|Zc (X.storeNE Zs69 hB1 rfl rfl rfl rfl (fun u hu => by simp at hu; rcases hu with rfl | rfl <;> rfl)) rfl ?_
 rintro _ w2 ⟨hB2, hx2, hz2⟩
 refine Ze ?_
 refine X.ret_unw (X.unwR1 Tryz.func27 Tryz.results27 (X.ResOk.cell rfl (X.lvN Zi69 Zs69 hB2 rfl)) ?_)
 exact ⟨rfl, (hk1.step hx2 zq34)⟩
theorem page_c_cache (n : Int) (hn : okI n) (w : World) : Ret Tryz.prog 28 #[.int .i64 n] w fun r w' => ∃ A c, r = .slice A 1 c ∧ 1 ≤ c ∧ Sl KC w.heap.size w'.heap.size w' A 1 (pageP n) ∧ Keep w w' := by
 have h1 : okI 1 := by constructor <;> decide
 have h0 : ByteArray.size ⟨#[]⟩ ≤ 9223372036854775807 := by decide
 refine X.enter Tryz.func28 rfl Tryz.ntmps28 rfl<|Zs<|Zr<|Zoa rfl rfl<|Ze<|Zs<|Zr<|Zomi rfl rfl<|Zo (X.buildB (vs := [(0, .int .i64 1), (1, .int .i64 n)]) (cs := #[.int .i64 1, .int .i64 n, .string ⟨#[]⟩]) rfl Zl) rfl<|Zc (X.litKF KV_flat (K := KV) (xs := [Operand.tmp 4]) (vs := [.agg (encV (1, n, ⟨#[]⟩)).toArray]) (ys := [(1, n, ⟨#[]⟩)]) Zu90 Tryz.sizeOf88 Tryz.zeroValue88 rfl rfl rfl rfl rfl (litVI ⟨h1, hn, h0⟩)) rfl ?_
 rintro _ w1 ⟨rfl, hs1, hB1, hk1, hz1⟩
 refine Zo (X.buildB (vs := [(0, .slice (some ⟨w.heap.size, 0, none⟩) 1 1), (1, .int .i64 1)]) (cs := #[.slice (some ⟨w.heap.size, 0, none⟩) 1 1, .int .i64 1]) rfl Zl) rfl<|Zc (X.litKF KCt_flat (K := KCt) (xs := [Operand.tmp 6]) (vs := [evC ((some ⟨w.heap.size, 0, none⟩, 1, 1), 1)]) (ys := [((some ⟨w.heap.size, 0, none⟩, 1, 1), 1)]) Zu29 Zs92 Zv92 rfl rfl rfl rfl rfl (repsC _)) rfl ?_
 rintro _ w2 ⟨rfl, hs2, hB2, hk2, hz2⟩
 refine Zoa rfl rfl<|Ze<|X.ret1 Tryz.func28 Tryz.results28 rfl ?_
 have ht : Tups (fun k => w.heap.size ≤ k ∧ k < w2.heap.size) w2 [((some ⟨w.heap.size, 0, none⟩, 1, 1), 1)] (pageP n) := ⟨⟨rfl, h1, Nat.le_refl _, _, _, fun k a b => ⟨by omega, by omega⟩, (hs1.keep hk2)⟩, trivial⟩
 exact ⟨_, _, rfl, Nat.le_refl _, ht.sl (hs2.wide Zz Zz) (fun k h => h), (hk1.trans hk2)⟩
theorem Same_c {lo1 hi1 lo2 hi2 : Nat} {A1 A2 : Option Addr} {n1 n2 c1 c2 : Nat} {p q : List CD} (w : World) (hp1 : Sl KC lo1 hi1 w A1 n1 p) (hp2 : Sl KC lo2 hi2 w A2 n2 q) : Ret Tryz.prog 14 #[.slice A1 n1 c1, .slice A2 n2 c2] w fun r w' => r = .bool (decide (p = q)) ∧ Keep w w' := by
 have hl1 := hp1.len
 have hl2 := hp2.len
 have hbd := hp1.bound
 obtain ⟨l1, hs1, ht1⟩ := sl_tups hp1
 obtain ⟨l2, hs2, ht2⟩ := sl_tups hp2
 refine X.enter Zf14 rfl Tryz.ntmps14 rfl<|Zs<|Zr<|Zoa rfl rfl<|Ze<|Zs<|Zs<|Zr<|Zoms rfl rfl<|Zo (X.lenSl Zu29 rfl) rfl<|Zoms rfl rfl<|Zo (X.lenSl Zu29 rfl) rfl<|X.opP X.wN rfl rfl (X.neI rfl rfl) (fun h10 => ?_) (fun h10 => ?_)
 ·refine Ze<|Zt rfl<|Zs<|Zr<|Zoa rfl rfl<|Ze<|X.ret1 (v := (.bool _)) Zf14 Zr14 rfl ?_
  exact ⟨by congr 1; exact (decide_eq_false (fun e => h10 (by have := congrArg List.length e; omega))).symm, (Keep.refl _)⟩
 ·refine Ze<|Zf rfl<|Zk<|Zs<|Zs<|Zr<|Zoa rfl rfl<|Ze<|Zb<|X.loopL (σ := Nat) (fun s => [(0, .slice A1 n1 c1), (1, .slice A2 n2 c2), (5, .int .i64 (s : Int))]) (fun s w' => s ≤ n1 ∧ s ≤ n2 ∧ p.take s = q.take s ∧ Keep w w') (fun s => n1 - s) 0 ⟨rfl, rfl, rfl, trivial⟩ ⟨Nat.zero_le _, Nat.zero_le _, rfl, (Keep.refl _)⟩ ?_
  rintro i b w1 ⟨hi1, hi2, ht, hk⟩ hback
  have hk' := hk.size
  refine Zs<|Zs<|Zr<|Zomi rfl rfl<|Zoms rfl rfl<|Zo (X.lenSl Zu29 rfl) rfl<|X.opP X.wN rfl rfl (X.lss rfl rfl) (fun h14 => ?_) (fun h14 => ?_)
  ·obtain ⟨x1, hx1⟩ := getL i hs1.len Zz
   obtain ⟨x2, hx2⟩ := getL i hs2.len Zz
   obtain ⟨q1, hq1, e1, _, _, la, ha, _, hst1⟩ := ht1.get hx1
   obtain ⟨q2, hq2, e2, _, _, lb, hb, _, hst2⟩ := ht2.get hx2
   refine Ze<|Zt rfl<|Zk<|Zs<|Zb<|Zs<|X.regionD (fun _ => False) 25 Zl Zl (fun w1 hk1 hz1 => ?_)
   refine ZDc 0 rfl Zl (Zdms rfl)<|ZDc 1 rfl Zl (Zdmi rfl)<|ZD 2 rfl Zl (fun w' hk' => X.idxS (hs1.keep ((hk.trans hk1).trans hk')) Zu29 Zs92 rfl rfl ⟨by omega, by omega⟩)<|ZDc 3 rfl Zl (X.fldA Zu92 rfl rfl Zs2)<|ZD 4 rfl Zl (fun w' hk' => X.loadSf Zi2 (hs1.keep ((hk.trans hk1).trans hk')) hx1 rfl (fun _ h => by rw [h.1]; rfl)) ?_
   refine ZDc 5 rfl Zl (Zdms rfl)<|ZDc 6 rfl Zl (Zdmi rfl)<|ZD 7 rfl Zl (fun w' hk' => X.idxS (hs2.keep ((hk.trans hk1).trans hk')) Zu29 Zs92 rfl rfl ⟨by omega, by omega⟩)<|ZDc 8 rfl Zl (X.fldA Zu92 rfl rfl Zs2)<|ZD 9 rfl Zl (fun w' hk' => X.loadSf Zi2 (hs2.keep ((hk.trans hk1).trans hk')) hx2 rfl (fun _ h => by rw [h.1]; rfl)) ?_
   refine ZDc 10 rfl Zl (X.neI rfl rfl)<|ZDc 11 rfl Zl (Zdmo rfl)<|X.dFork 28 rfl (fun h28 => ?_) (fun h28 => ?_)
   ·refine X.dTakeS 12 rfl Zl Zl Zl rfl rfl rfl rfl<|X.dTakeS 13 rfl Zl Zl Zl rfl rfl rfl rfl<|X.dTakeS 14 rfl Zl Zl Zl rfl rfl rfl rfl<|X.dTakeS 15 rfl Zl Zl Zl rfl rfl rfl rfl<|X.dTakeS 16 rfl Zl Zl Zl rfl rfl rfl rfl<|X.dTakeS 17 rfl Zl Zl Zl rfl rfl rfl rfl<|ZS 18 Zl rfl rfl rfl<|ZS 19 Zl rfl rfl rfl<|ZS 20 Zl rfl rfl rfl<|ZS 21 Zl rfl rfl rfl<|ZS 22 Zl rfl rfl rfl<|ZS 23 Zl rfl rfl rfl<|ZDc 24 rfl Zl (ZdTt rfl rfl)<|Zdend Zl<|Zt rfl<|Zs<|Zr<|Zoa rfl rfl<|Ze<|X.ret1 (v := (.bool _)) Zf14 Zr14 rfl ?_
    refine ⟨by congr 1; refine (decide_eq_false (fun e => ?_)).symm; rw [e, hq2] at hq1; cases hq1; exact absurd (e1.trans e2.symm) (by simpa using h28), (hk.trans hk1)⟩
   ·refine ZG 12 rfl rfl rfl Zl (fun w' hk' => Zdms rfl)<|ZG 13 rfl rfl rfl Zl (fun w' hk' => Zdmi rfl)<|ZG 14 rfl rfl rfl Zl (fun w' hk' => X.idxS (hs1.keep ((hk.trans hk1).trans hk')) Zu29 Zs92 rfl rfl ⟨by omega, by omega⟩)<|ZG 15 rfl rfl rfl Zl (fun w' hk' => X.fldA Zu92 rfl rfl Zs90)<|ZG 16 rfl rfl rfl Zl (fun w' hk' => X.loadSf Zi90 (hs1.keep ((hk.trans hk1).trans hk')) hx1 rfl (fun _ h => by rw [h.1]; rfl)) ?_
    refine ZG 17 rfl rfl rfl Zl (fun w' hk' => Zdms rfl)<|ZG 18 rfl rfl rfl Zl (fun w' hk' => Zdmi rfl)<|ZG 19 rfl rfl rfl Zl (fun w' hk' => X.idxS (hs2.keep ((hk.trans hk1).trans hk')) Zu29 Zs92 rfl rfl ⟨by omega, by omega⟩)<|ZG 20 rfl rfl rfl Zl (fun w' hk' => X.fldA Zu92 rfl rfl Zs90)<|ZG 21 rfl rfl rfl Zl (fun w' hk' => X.loadSf Zi90 (hs2.keep ((hk.trans hk1).trans hk')) hx2 rfl (fun _ h => by rw [h.1]; rfl)) ?_
    refine X.dE (i := 22) Zl rfl (X.dwG rfl rfl rfl) (X.callE (R02Compare_c _ (hst1.keep (hk.trans hk1)) (hst2.keep (hk.trans hk1))) Tryz.call43 rfl rfl) (by rintro _ w2 ⟨rfl, hk2⟩ _; exact hk2.mono (fun _ _ h => h.elim)) ?_
    rintro _ w2 ⟨rfl, hk2⟩
    have hk2' := hk2.size
    refine ZG 23 rfl rfl rfl Zl (fun w' hk' => X.neI rfl rfl)<|ZDc 24 rfl Zl (ZdFo rfl rfl)<|Zdend Zl<|X.condB rfl (fun hc => ?_) (fun hc => ?_)
    ·refine Zs<|Zr<|Zoa rfl rfl<|Ze<|X.ret1 (v := (.bool _)) Zf14 Zr14 rfl ?_
     refine ⟨by congr 1; refine (decide_eq_false (fun e => ?_)).symm; rw [e, hq2] at hq1; cases hq1; rw [cmpT_self] at hc; simp at hc, ((hk.trans hk1).trans hk2)⟩
    ·refine Zk<|Zi<|Zr<|Zomi rfl rfl<|Zo (X.add rfl rfl (X.w_i64 Zz)) rfl<|Zoai rfl rfl<|Ze ?_
     have hrd : q1 = q2 := by
       have e3 : x1.2 = x2.2 := by simpa using h28
       have e4 : q1.1 = q2.1 := (cmpT_0 _ _).1 (by simpa using hc)
       exact Prod.ext e4 (by rw [← e1, e3, e2])
     refine hback (i + 1) _ _ ⟨rfl, rfl, rfl, trivial⟩ ⟨by omega, by omega, cd_step hq1 hq2 ht hrd, ((hk.trans hk1).trans hk2)⟩ Zz
  ·refine Ze<|Zf rfl<|Zx rfl<|Zs<|Zr<|Zoa rfl rfl<|Ze<|X.ret1 (v := (.bool _)) Zf14 Zr14 rfl ?_
   refine ⟨by congr 1; refine (decide_eq_true ?_).symm; rw [List.take_of_length_le Zz, List.take_of_length_le Zz] at ht; exact ht, hk⟩
theorem CaIn.mono {T T2 : Nat → Prop} {w : World} {bc : Nat} {s : Ca} (h : CaIn T w bc s) (hT : ∀ k, T k → T2 k) (hl : ∀ k, T2 k → k < w.heap.size) : CaIn T2 w bc s := by
  obtain ⟨bm, A, n, c, mm, TR, TD, h1, h2, h3, h4, h5⟩ := h
  exact ⟨bm, A, n, c, mm, TR, TD, h1, h2, h3, h4, { h5 with tc := hT _ h5.tc, tm := hT _ h5.tm, tr := fun k h => hT k (h5.tr k h), td := fun k h => hT k (h5.td k h), lt := hl }⟩
theorem New_e (rm : Int) (h : ¬ (rm < 0 ∨ 1024 < rm)) (w : World) : Ret Tryz.prog 10 #[.int .i64 rm] w fun r w' => ∃ bc, r = .tuple #[ptrV bc, .int .i64 0] ∧ CaIn (fun k => w.heap.size ≤ k ∧ k < w'.heap.size) w' bc ⟨rm, [], 0, 0, 0⟩ ∧ Keep w w' :=
  (New_c_cache rm w).mono fun r w' q => by
    rcases q with ⟨q, _⟩ | ⟨_, bc, TT, e, hC, hT, hk⟩
    · exact absurd q h
    · exact ⟨bc, e, hC.mono (fun k hk => ⟨hT k hk, hC.lt k hk⟩) (fun k hk => hk.2), hk⟩
theorem Put_e {T : Nat → Prop} {bc : Nat} {s s' : Ca} (k : PKEY) (w : World) (hC : CaIn T w bc s) {A2 : Option Addr} {n2 c2 lo2 hi2 : Nat} {pg : List CD} (hpg : Sl KC lo2 hi2 w A2 n2 pg) (hhi2 : hi2 ≤ w.heap.size) (hok : okPg pg) (hLn : s.L.length ≤ 10000) (hg : -1000000 ≤ s.g ∧ s.g ≤ 1000000) (hrm : 0 ≤ s.room) (e : s.put k pg = s') : Ret Tryz.prog 26 #[ptrV bc, encPK k, .slice A2 n2 c2] w fun r w' => r = .tuple #[] ∧ CaIn (fun q => T q ∨ (w.heap.size ≤ q ∧ q < w'.heap.size)) w' bc s' ∧ Ext T w w' := e ▸ Put_c k w hC hpg hhi2 hok hLn hg hrm
theorem Told.sl {a b : Nat} {w : World} {v : Value} {p : List CD} (h : Told (fun q => a ≤ q ∧ q < b) w v p) : ∃ A c, v = .slice A p.length c ∧ p.length ≤ c ∧ Sl KC a b w A p.length p := by
  obtain ⟨A, c, l, TB, h1, h2, h3, h4, h5⟩ := h
  obtain ⟨A', c', e1, _, hs⟩ := (h3.flat KCt_flat (lo' := a) (hi' := b)).sl (fun k _ hk => hk.1)
  injection e1 with e1 e2 e3
  rw [← e1, ← e2] at hs
  exact ⟨A, c, h1, h2, h4.sl hs h5⟩
theorem Get_e {T : Nat → Prop} {bc : Nat} {s s' : Ca} {p : List CD} (k : PKEY) (w : World) (hC : CaIn T w bc s) (hLn : s.L.length ≤ 10000) (hh : -1000000 ≤ s.h ∧ s.h ≤ 1000000) (hms : -1000000 ≤ s.m ∧ s.m ≤ 1000000) (hk : asc k s.L = some p) (e : s.get k = s') : Ret Tryz.prog 29 #[ptrV bc, encPK k] w fun r w' => ∃ a b A c, w.heap.size ≤ a ∧ a ≤ b ∧ b ≤ w'.heap.size ∧ r = .tuple #[.slice A p.length c, .bool true] ∧ Sl KC b w'.heap.size w' A p.length p ∧ CaIn (fun q => T q ∨ (a ≤ q ∧ q < b)) w' bc s' ∧ Ext T w w' :=
  (Get_c k w hC hLn hh hms).mono fun r w' ⟨a, b, h1, h2, h3, ⟨v, h4, h5⟩, h6, h7⟩ => by
    rw [hk] at h4 h5
    obtain ⟨A, c, e1, _, hs⟩ := h5.sl
    subst e1
    exact ⟨a, b, A, c, h1, h2, h3, h4, hs, e ▸ h6, h7⟩
theorem eqPkT (a : PKEY) (w : World) : (Op.equalIn 10000 69 (.agg #[.string a.1, .int .i64 a.2]) (.agg #[.string a.1, .int .i64 a.2])).run Tryz.prog w = .ok true w := by have := eqPk a a w; simpa using this
theorem eqSt_guard : Tryz.prog.eqGuardType Tryz.prog.depth 61 = false := by kernel_rfl
theorem eqSt (a b : Int × Int × Int) (w : World) : (Op.equalIn 10000 61 (.agg #[.int .i64 a.1, .int .i64 a.2.1, .int .i64 a.2.2]) (.agg #[.int .i64 b.1, .int .i64 b.2.1, .int .i64 b.2.2])).run Tryz.prog w = .ok (decide (a = b)) w := by
  rw [run_equalIn_struct w 9999 _ _ _ (by simp [Program.fieldsOf, Zu61]) Zl]
  simp only [Program.fieldsOf, Zu61]
  simp [Op.eqFields, part, Zi3, run_equalIn_int _ 9998 3 .i64 .i64 _ _ Zu3]
  obtain ⟨a1, a2, a3⟩ := a
  obtain ⟨b1, b2, b3⟩ := b
  by_cases h1 : a1 = b1 <;> by_cases h2 : a2 = b2 <;> by_cases h3 : a3 = b3 <;> simp [h1, h2, h3]
theorem Same_e {lo1 hi1 lo2 hi2 : Nat} {A1 A2 : Option Addr} {n1 n2 c1 c2 : Nat} {p : List CD} (w : World) (hp1 : Sl KC lo1 hi1 w A1 n1 p) (hp2 : Sl KC lo2 hi2 w A2 n2 p) : Ret Tryz.prog 14 #[.slice A1 n1 c1, .slice A2 n2 c2] w fun r w' => r = .bool true ∧ Keep w w' :=
  (Same_c w hp1 hp2).mono fun r w' ⟨h1, h2⟩ => ⟨by rw [h1]; simp, h2⟩
abbrev awA : Ca := ⟨2, [], 0, 0, 0⟩
abbrev awB : Ca := ⟨2, [(keyP 1, pageP 1)], 0, 0, 0⟩
abbrev awC : Ca := ⟨2, [(keyP 2, pageP 2), (keyP 1, pageP 1)], 0, 0, 0⟩
abbrev awD : Ca := ⟨2, [(keyP 1, pageP 1), (keyP 2, pageP 2)], 1, 0, 0⟩
abbrev awE : Ca := ⟨2, [(keyP 3, pageP 3), (keyP 1, pageP 1)], 1, 0, 1⟩
theorem awAB : awA.put (keyP 1) (pageP 1) = awB := by simp [Ca.put, keyP]
theorem awBC : awB.put (keyP 2) (pageP 2) = awC := by simp [Ca.put, keyP]
theorem awCD : awC.get (keyP 1) = awD := by simp [Ca.get, asc, keyP]
theorem awCa : asc (keyP 1) awC.L = some (pageP 1) := by simp [asc, keyP]
theorem awDE : awD.put (keyP 3) (pageP 3) = awE := by simp [Ca.put, keyP]
theorem okS {n : Int} (h : -100 ≤ n ∧ n ≤ 100) : okI n := by constructor <;> omega
theorem awake_c (w : World) : Ret Tryz.prog 5 #[] w fun r w' => r = .bool true ∧ Keep w w' := by
 refine X.enter Tryz.func5 rfl Tryz.ntmps5 rfl<|Zs<|Zr<|Zoa rfl rfl<|Ze<|Zs<|Zr<|Zc (X.callE (New_e _ Zz _) Tryz.call10 rfl rfl) rfl ?_
 rintro _ w1 ⟨bc, rfl, hC1, hk1⟩
 have hk1' := hk1.size
 refine Zom rfl rfl<|Zo (X.extr rfl rfl) rfl<|Zo (X.extr rfl rfl) rfl<|Zoa rfl rfl<|Zoai rfl rfl<|Ze<|Zs<|Zs<|Zr<|Zomi rfl rfl<|Zo (X.neI rfl rfl) rfl<|Zomf rfl rfl<|Zg (X.move rfl) rfl rfl rfl rfl<|Zg (X.eqPtrN (A := some _) Zu34 rfl rfl) rfl rfl rfl rfl<|Zo (ZdFf rfl rfl) rfl<|Ze<|Zf rfl<|Zk<|Zs<|Zr<|Zom rfl rfl<|Zc (X.callE (key_c _ _) Zc27 rfl rfl) rfl ?_
 rintro _ w2 ⟨rfl, hk2⟩
 have hk2' := hk2.size
 refine Zc (X.callE (page_c_cache _ (okS Zz) _) Zc28 rfl rfl) rfl ?_
 rintro _ w3 ⟨A3, c3, rfl, hc3, hs3, hk3⟩
 have hk3' := hk3.size
 refine Zc (X.callE (Put_e (keyP 1) _ (hC1.keep (hk2.trans hk3)) hs3 Zz (pageP_ok 1) (by decide) (by decide) (by decide) awAB) Zc26 rfl rfl) rfl ?_
 rintro _ w4 ⟨rfl, hC4, hx4⟩
 have hx4' := hx4.size
 refine Ze<|Zs<|Zr<|Zom rfl rfl<|Zc (X.callE (key_c _ _) Zc27 rfl rfl) rfl ?_
 rintro _ w5 ⟨rfl, hk5⟩
 have hk5' := hk5.size
 refine Zc (X.callE (page_c_cache _ (okS Zz) _) Zc28 rfl rfl) rfl ?_
 rintro _ w6 ⟨A6, c6, rfl, hc6, hs6, hk6⟩
 have hk6' := hk6.size
 refine Zc (X.callE (Put_e (keyP 2) _ (hC4.keep (hk5.trans hk6)) hs6 Zz (pageP_ok 2) (by decide) (by decide) (by decide) awBC) Zc26 rfl rfl) rfl ?_
 rintro _ w7 ⟨rfl, hC7, hx7⟩
 have hx7' := hx7.size
 refine Ze<|Zs<|Zr<|Zom rfl rfl<|Zc (X.callE (key_c _ _) Zc27 rfl rfl) rfl ?_
 rintro _ w8 ⟨rfl, hk8⟩
 have hk8' := hk8.size
 refine Zc (X.callE (Get_e (keyP 1) _ (hC7.keep hk8) (by decide) (by decide) (by decide) awCa awCD) Tryz.call29 rfl rfl) rfl ?_
 rintro _ w9 ⟨ga, gb, gA, gc, hga, hgb, hgw, rfl, hgs, hC9, hx9⟩
 have hx9' := hx9.size
 refine Zom rfl rfl<|Zo (X.extr rfl rfl) rfl<|Zo (X.extr rfl rfl) rfl<|Zoas rfl rfl<|Zoat rfl rfl<|Ze<|Zs<|Zr<|Zom rfl rfl<|Zc (X.callE (key_c _ _) Zc27 rfl rfl) rfl ?_
 rintro _ w10 ⟨rfl, hk10⟩
 have hk10' := hk10.size
 refine Zc (X.callE (page_c_cache _ (okS Zz) _) Zc28 rfl rfl) rfl ?_
 rintro _ w11 ⟨A11, c11, rfl, hc11, hs11, hk11⟩
 have hk11' := hk11.size
 refine Zc (X.callE (Put_e (keyP 3) _ (hC9.keep (hk10.trans hk11)) hs11 Zz (pageP_ok 3) (by decide) (by decide) (by decide) awDE) Zc26 rfl rfl) rfl ?_
 rintro _ w12 ⟨rfl, hC12, hx12⟩
 have hx12' := hx12.size
 refine Ze<|Zs<|Zr<|Zom rfl rfl<|Zc (X.callE (Keys_c _ hC12 (by decide)) Tryz.call23 rfl rfl) rfl ?_
 rintro _ w13 ⟨kA, kc, rfl, hkc, hkM, hk13⟩
 have hk13' := hk13.size
 refine Zoas rfl rfl<|Ze<|Zs<|X.regionD (fun _ => False) 36 Zl Zl (fun w14 hk14 hz14 => ?_)
 refine ZDc 0 rfl Zl (Zdmt rfl)<|ZDc 1 rfl Zl (Zdmt rfl)<|ZG 2 rfl rfl rfl Zl (fun w' hk' => Zdms rfl)<|X.dE (i := 3) Zl rfl (X.dwG rfl rfl rfl) (X.callE (page_c_cache _ (okS Zz) _) Zc28 rfl rfl) (by rintro _ w15 ⟨A15, c15, rfl, hc15, hs15, hk15⟩ _; exact hk15.mono (fun _ _ h => h.elim)) ?_
 rintro _ w15 ⟨A15, c15, rfl, hc15, hs15, hk15⟩
 have hk15' := hk15.size
 refine X.dE (i := 4) Zl rfl (X.dwG rfl rfl rfl) (X.callE (Same_e _ (((hgs.keep (hk10.trans hk11)).ext hx12 (by intros; (try simp only []); first | omega | (intro hq; have hq2 := hq; (try simp only [] at hq2); omega))).keep ((hk13.trans hk14).trans hk15)) hs15) Zc14 rfl rfl) (by rintro _ w16 ⟨rfl, hk16⟩ _; exact hk16.mono (fun _ _ h => h.elim)) ?_
 rintro _ w16 ⟨rfl, hk16⟩
 have hk16' := hk16.size
 refine ZDc 5 rfl Zl (ZdTt rfl rfl)<|ZDc 6 rfl Zl (Zdmt rfl)<|ZG 7 rfl rfl rfl Zl (fun w' hk' => Zdms rfl)<|ZG 8 rfl rfl rfl Zl (fun w' hk' => X.lenSl Zu58 rfl)<|ZG 9 rfl rfl rfl Zl (fun w' hk' => X.eqI rfl rfl)<|ZDc 10 rfl Zl (ZdTt rfl rfl)<|ZDc 11 rfl Zl (Zdmt rfl)<|ZG 12 rfl rfl rfl Zl (fun w' hk' => Zdms rfl)<|ZG 13 rfl rfl rfl Zl (fun w' hk' => X.idxS ((mine_0 KPk_flat hkM 0 (fun _ _ => Nat.zero_le _)).keep (((hk14.trans hk15).trans hk16).trans hk')) Zu58 Zs69 rfl rfl ⟨by first | omega | decide, by first | omega | decide⟩) ?_
 refine ZG 14 rfl rfl rfl Zl (fun w' hk' => X.loadSN Zi69 Zs69 ((mine_0 KPk_flat hkM 0 (fun _ _ => Nat.zero_le _)).keep (((hk14.trans hk15).trans hk16).trans hk')) (rfl : [keyP 3, keyP 1][0]? = some (keyP 3)) rfl (fun _ h => h.1) rfl)<|X.dE (i := 15) Zl rfl (X.dwG rfl rfl rfl) (X.callE (key_c _ _) Zc27 rfl rfl) (by rintro _ w17 ⟨rfl, hk17⟩ _; exact hk17.mono (fun _ _ h => h.elim)) ?_
 rintro _ w17 ⟨rfl, hk17⟩
 have hk17' := hk17.size
 refine X.dTake 16 rfl Zl Zl Zl (X.dwG rfl rfl rfl) (fun w' hk' => X.eqA eqPk_guard rfl rfl (eqPkT (keyP 3) _)) ?_
 refine ZDc 17 rfl Zl (ZdTt rfl rfl)<|ZDc 18 rfl Zl (Zdmt rfl)<|ZG 19 rfl rfl rfl Zl (fun w' hk' => Zdms rfl)<|ZG 20 rfl rfl rfl Zl (fun w' hk' => X.idxS ((mine_0 KPk_flat hkM 0 (fun _ _ => Nat.zero_le _)).keep ((((hk14.trans hk15).trans hk16).trans hk17).trans hk')) Zu58 Zs69 rfl rfl ⟨by first | omega | decide, by first | omega | decide⟩) ?_
 refine ZG 21 rfl rfl rfl Zl (fun w' hk' => X.loadSN Zi69 Zs69 ((mine_0 KPk_flat hkM 0 (fun _ _ => Nat.zero_le _)).keep ((((hk14.trans hk15).trans hk16).trans hk17).trans hk')) (rfl : [keyP 3, keyP 1][1]? = some (keyP 1)) rfl (fun _ h => h.1) rfl)<|X.dE (i := 22) Zl rfl (X.dwG rfl rfl rfl) (X.callE (key_c _ _) Zc27 rfl rfl) (by rintro _ w18 ⟨rfl, hk18⟩ _; exact hk18.mono (fun _ _ h => h.elim)) ?_
 rintro _ w18 ⟨rfl, hk18⟩
 have hk18' := hk18.size
 refine X.dTake 23 rfl Zl Zl Zl (X.dwG rfl rfl rfl) (fun w' hk' => X.eqA eqPk_guard rfl rfl (eqPkT (keyP 1) _)) ?_
 refine ZDc 24 rfl Zl (ZdTt rfl rfl)<|ZDc 25 rfl Zl (Zdmt rfl)<|ZG 26 rfl rfl rfl Zl (fun w' hk' => X.move rfl)<|ZG 28 rfl rfl rfl Zl (fun w' hk' => X.buildB (vs := [(0, .int .i64 1), (2, .int .i64 1)]) (cs := #[.int .i64 1, .int .i64 0, .int .i64 1]) rfl Zl)<|X.dE (i := 27) Zl rfl (X.dwG rfl rfl rfl) (X.callE (Stats_c _ (hC12.keep (((((hk13.trans hk14).trans hk15).trans hk16).trans hk17).trans hk18))) Tryz.call25 rfl rfl) (by rintro _ w19 ⟨rfl, hk19⟩ _; exact hk19.mono (fun _ _ h => h.elim)) ?_
 rintro _ w19 ⟨rfl, hk19⟩
 have hk19' := hk19.size
 refine X.dTake 29 rfl Zl Zl Zl (X.dwG rfl rfl rfl) (fun w' hk' => X.eqA (b := true) eqSt_guard rfl rfl (eqSt (1, 0, 1) (1, 0, 1) _)) ?_
 refine ZDc 30 rfl Zl (ZdTt rfl rfl)<|ZDc 31 rfl Zl (Zdmt rfl)<|ZG 32 rfl rfl rfl Zl (fun w' hk' => X.move rfl)<|X.dE (i := 33) Zl rfl (X.dwG rfl rfl rfl) (X.callE (Room_c _ (hC12.keep ((((((hk13.trans hk14).trans hk15).trans hk16).trans hk17).trans hk18).trans hk19))) Tryz.call30 rfl rfl) (by rintro _ w20 ⟨rfl, hk20⟩ _; exact hk20.mono (fun _ _ h => h.elim)) ?_
 rintro _ w20 ⟨rfl, hk20⟩
 have hk20' := hk20.size
 refine ZG 34 rfl rfl rfl Zl (fun w' hk' => X.eqI rfl rfl)<|ZDc 35 rfl Zl (ZdTt rfl rfl)<|X.dStep (i := 36) Zl rfl (X.dwN rfl) (X.assign (v := .bool true) rfl) (fun h => absurd h (by decide))<|Zdend Zl<|X.ret1 (v := (.bool _)) Tryz.func5 Tryz.results5 rfl ?_
 exact ⟨rfl, (((((((((((((((((((hk1.trans hk2).trans hk3).step hx4 zq34).trans hk5).trans hk6).step hx7 zq34).trans hk8).step hx9 zq34).trans hk10).trans hk11).step hx12 zq34).trans hk13).trans hk14).trans hk15).trans hk16).trans hk17).trans hk18).trans hk19).trans hk20)⟩
def Nob_cache (w : World) (p : Option Addr) : Prop := p = none ∨ ∃ b, p = some ⟨b, 0, none⟩ ∧ Blk w b (caL 0 none none 0 0 0 0 0) 105
theorem Nob_cache.keep {w w' : World} {p : Option Addr} (h : Nob_cache w p) (k : Keep w w') : Nob_cache w' p := h.imp id fun ⟨b, e, h⟩ => ⟨b, e, h.keep k⟩
theorem is_n_cache (p : Option Addr) (w : World) (h : Nob_cache w p) : Ret Tryz.prog 38 #[.pointer p] w fun r w' => r = .bool false ∧ Keep w w' := by
  rcases h with rfl | ⟨b, rfl, hB⟩
  · exact is0_c_cache w
  · exact isz_c_cache w hB
theorem fresh_take {α : Type} [DecidableEq α] (k : α) : ∀ (xs : List α) (r : Nat), xs.Nodup → ((xs.take (r + 1)).filter fun x => decide (x ≠ k)).take r = (xs.filter fun x => decide (x ≠ k)).take r
  | [], r, _ => by simp
  | x :: xs, 0, h => by simp
  | x :: xs, r + 1, h => by
    obtain ⟨h1, h2⟩ := List.nodup_cons.1 h
    have ih := fresh_take k xs r h2
    rw [List.take_succ_cons]
    by_cases e : x = k
    · subst e
      rw [List.filter_cons, if_neg (by simp), List.filter_cons, if_neg (by simp)]
      have g : ∀ l : List α, (∀ y ∈ l, y ≠ x) → l.filter (fun y => decide (y ≠ x)) = l := fun l hl => List.filter_eq_self.2 fun y hy => by simpa using hl y hy
      have hx : ∀ y ∈ xs, y ≠ x := fun y hy e => h1 (e ▸ hy)
      rw [g _ hx, g _ (fun y hy => hx y (List.mem_of_mem_take hy)), List.take_take, Nat.min_self]
    · rw [List.filter_cons, if_pos (by simpa using e), List.filter_cons, if_pos (by simpa using e), List.take_succ_cons, List.take_succ_cons, ih]
theorem put_keys {s : Ca} {k : PKEY} {p : List CD} {xs : List PKEY} {r : Nat} (hr : s.room = (r : Int)) (hn : xs.Nodup) (hl : s.L.map (·.1) = xs.take r) : (s.put k p).L.map (·.1) = (k :: xs.filter fun x => decide (x ≠ k)).take r ∧ (s.put k p).room = (r : Int) ∧ (s.put k p).g ≤ s.g + 1 ∧ s.g ≤ (s.put k p).g ∧ (s.put k p).h = s.h ∧ (s.put k p).m = s.m := by
  have hf : (s.L.filter fun q => decide (q.1 ≠ k)).map (·.1) = (xs.take r).filter fun x => decide (x ≠ k) := by rw [map_filter_ne, hl]
  have hfl : (s.L.filter fun q => decide (q.1 ≠ k)).length = ((xs.take r).filter fun x => decide (x ≠ k)).length := by rw [← hf, List.length_map]
  cases r with
  | zero =>
    rw [Ca.put, if_pos (show s.room = 0 by omega)]
    exact ⟨by rw [hl]; simp, hr, by omega, by omega, rfl, rfl⟩
  | succ r =>
    have hft := fresh_take k xs r hn
    rw [Ca.put, if_neg Zz]
    have hle : ((xs.take (r + 1)).filter fun x => decide (x ≠ k)).length ≤ r + 1 := Nat.le_trans (List.length_filter_le _ _) (by rw [List.length_take]; omega)
    split
    · rename_i h
      rw [List.length_cons, hfl] at h
      refine ⟨?_, hr, by dsimp only; omega, by dsimp only; omega, rfl, rfl⟩
      dsimp only
      rw [List.map_dropLast, List.map_cons, hf, List.take_succ_cons, ← hft]
      have : ((xs.take (r + 1)).filter fun x => decide (x ≠ k)).length = r + 1 := by omega
      rw [List.dropLast_eq_take, List.length_cons, this, Nat.add_sub_cancel, List.take_succ_cons]
    · rename_i h
      rw [List.length_cons, hfl] at h
      refine ⟨?_, hr, by dsimp only; omega, by dsimp only; omega, rfl, rfl⟩
      dsimp only
      rw [List.map_cons, hf, List.take_succ_cons, ← hft, List.take_of_length_le (l := (xs.take (r + 1)).filter fun x => decide (x ≠ k)) Zz]
def dropTo (nm : ByteArray) (L : PGS) (i : Nat) : PGS := (L.take i).filter (fun q => decide (q.1.1 ≠ nm)) ++ L.drop i
abbrev Ca.dropTo (s : Ca) (nm : ByteArray) (i : Nat) : Ca := { s with L := Go.Proofs.YtjjhddjllpihaaaGreatDoor.dropTo nm s.L i }
theorem dropTo_0 (nm : ByteArray) (L : PGS) : dropTo nm L 0 = L := by simp [dropTo]
theorem dropTo_end (nm : ByteArray) (L : PGS) : dropTo nm L L.length = L.filter fun q => decide (q.1.1 ≠ nm) := by simp [dropTo]
theorem drop_at_cache {α : Type} {l : List α} {i : Nat} {x : α} (h : l[i]? = some x) : l.drop i = x :: l.drop (i + 1) := by
  obtain ⟨h1, h2⟩ := List.getElem?_eq_some_iff.1 h
  rw [List.drop_eq_getElem_cons h1, h2]
theorem dropTo_keep {nm : ByteArray} {L : PGS} {i : Nat} {q : PKEY × List CD} (h : L[i]? = some q) (hn : q.1.1 ≠ nm) : dropTo nm L (i + 1) = dropTo nm L i := by
  rw [dropTo, dropTo, take_at h, List.filter_append, drop_at_cache h]
  simp [hn]
theorem dropTo_gone {nm : ByteArray} {L : PGS} {i : Nat} {q : PKEY × List CD} (hd : (L.map (·.1)).Nodup) (h : L[i]? = some q) (hn : q.1.1 = nm) : dropTo nm L (i + 1) = (dropTo nm L i).filter fun p => decide (p.1 ≠ q.1) := by
  have e1 : L = L.take i ++ q :: L.drop (i + 1) := by rw [← drop_at_cache h, List.take_append_drop]
  rw [e1, List.map_append, List.map_cons, List.nodup_append] at hd
  obtain ⟨hd1, hd2, hd3⟩ := hd
  rw [List.nodup_cons] at hd2
  rw [dropTo, dropTo, take_at h, List.filter_append, drop_at_cache h, List.filter_append, List.filter_cons, List.filter_cons]
  have f1 : ((L.take i).filter fun p => decide (p.1.1 ≠ nm)).filter (fun p => decide (p.1 ≠ q.1)) = (L.take i).filter fun p => decide (p.1.1 ≠ nm) := List.filter_eq_self.2 fun p hp => decide_eq_true fun e => hd3 p.1 (List.mem_map.2 ⟨p, (List.mem_filter.1 hp).1, rfl⟩) q.1 (by simp) e
  have f2 : (L.drop (i + 1)).filter (fun p => decide (p.1 ≠ q.1)) = L.drop (i + 1) := List.filter_eq_self.2 fun p hp => decide_eq_true fun e => hd2.1 (List.mem_map.2 ⟨p, hp, e⟩)
  rw [f1, f2]
  simp [hn]
theorem dropTo_cnt {nm : ByteArray} {L : PGS} {i : Nat} {q : PKEY × List CD} (h : L[i]? = some q) : ((L.take (i + 1)).filter fun p => decide (p.1.1 ≠ nm)).length = ((L.take i).filter fun p => decide (p.1.1 ≠ nm)).length + if q.1.1 = nm then 0 else 1 := by
  rw [take_at h, List.filter_append, List.length_append]
  by_cases e : q.1.1 = nm <;> simp [e]
theorem dropTo_len {nm : ByteArray} {L : PGS} {i : Nat} : (dropTo nm L i).length ≤ L.length := by
  rw [dropTo, List.length_append]
  have := List.length_filter_le (fun q : PKEY × List CD => decide (q.1.1 ≠ nm)) (L.take i)
  rw [List.length_take] at this; rw [List.length_drop]; omega
theorem Drop_c {T : Nat → Prop} {bc : Nat} {s0 : Ca} (nm : ByteArray) (w : World) (hC0 : CaIn T w bc s0) (hLn : s0.L.length ≤ 10000) : Ret Tryz.prog 11 #[ptrV bc, .string nm] w fun r w' => r = .int .i64 ((s0.L.length : Int) - ((s0.drop nm).L.length : Int)) ∧ CaIn T w' bc (s0.drop nm) ∧ Ext T w w' := by
 have hT0 := hC0.lt
 have hnd0 : (s0.L.map (·.1)).Nodup := by obtain ⟨bm, A, n, c, mm, TR, TD, hB, hM, hG, hP, hS⟩ := hC0; exact hP.nd
 obtain ⟨bm0, A0, n0, c0, mm0, TR0, TD0, hB0, hM0, hG0, hP0, hS0⟩ := id hC0
 refine X.enter Tryz.func11 rfl Tryz.ntmps11 rfl<|Zs<|Zr<|Zoa rfl rfl<|Ze<|Zs<|Zs<|Zr<|Zom rfl rfl<|Zc (X.callE (is_c_cache _ hB0) Zc38 rfl rfl) rfl ?_
 rintro _ w1 ⟨rfl, hk1⟩
 have hk1' := hk1.size
 refine Zo (X.not_ rfl) rfl<|Ze<|Zf rfl<|Zk<|Zs<|Zr<|Zoa rfl rfl<|Ze<|Zs<|Zs<|Zr<|Zom rfl rfl<|Zc (X.callE (Keys_c _ (hC0.keep hk1) Zz) Tryz.call23 rfl rfl) rfl ?_
 rintro _ w2 ⟨kA, kc, rfl, hkc, hkM, hk2⟩
 have hk2' := hk2.size
 refine Zo (X.lenSl Zu58 rfl) rfl<|Zom rfl rfl<|Ze<|Zb<|X.loopL (σ := Nat) (fun s => [(0, ptrV bc), (1, .string nm), (5, .int .i64 ((s : Int) - (((s0.L.take s).filter fun p => decide (p.1.1 ≠ nm)).length : Int))), (12, .slice kA (s0.L.map (·.1)).length kc), (13, .int .i64 ((s0.L.map (·.1)).length : Int)), (14, .int .i64 (s : Int))]) (fun s w' => s ≤ s0.L.length ∧ CaIn T w' bc (s0.dropTo nm s) ∧ Mine KPk 69 (fun k => w.heap.size ≤ k ∧ k < w2.heap.size) 0 0 w' (.slice kA (s0.L.map (·.1)).length kc) (s0.L.map (·.1)) ∧ w2.heap.size ≤ w'.heap.size ∧ Ext T w w') (fun s => s0.L.length - s) 0 ⟨rfl, rfl, rfl, rfl, rfl, rfl, trivial⟩ ⟨Nat.zero_le _, (by rw [Ca.dropTo, dropTo_0]; exact hC0.keep (hk1.trans hk2)), hkM.mono (fun k hk h => ⟨by omega, hk⟩), by omega, (hk1.trans hk2).mono (fun _ _ h => h.elim)⟩ ?_
 rintro i b0 wl ⟨hi, hC, hkl, hwl, hxl⟩ hback
 have hxl' := hxl.size
 obtain ⟨bm, A, n, c, mm, TR, TD, hB, hM, hG, hP, hS⟩ := hC
 have hbcl := hB.lt
 have hcm := hS.cm
 have hbml := hG.lt
 have hSw : ∀ q, TR q → q < wl.heap.size := fun q h => hS.lt q (hS.tr q h)
 have hnl := hM.len
 rw [List.length_map] at hnl
 have hln : n ≤ s0.L.length := by rw [← hnl]; exact dropTo_len
 have hTl : ∀ k, T k → k < w.heap.size := hT0
 have hcl := List.length_filter_le (fun p : PKEY × List CD => decide (p.1.1 ≠ nm)) (s0.L.take i)
 rw [List.length_take] at hcl
 refine Zs<|Zr<|X.opP X.wN rfl rfl (X.lss rfl rfl) (fun h15 => ?_) (fun h15 => ?_)
 ·have hil : i < s0.L.length := by rw [List.length_map] at *; omega
  obtain ⟨x, hq⟩ := getL (l := s0.L) i rfl (by rw [List.length_map] at *; omega)
  have hx : (s0.L.map (·.1))[i]? = some x.1 := by rw [List.getElem?_map, hq]; rfl
  refine Ze<|Zs<|Zt rfl<|Zk<|Zs<|Zb<|Zs<|Zr<|Zo (X.idxS (mine_0 KPk_flat hkl 0 (fun _ _ => Nat.zero_le _)) Zu58 Zs69 rfl rfl ⟨by omega, by omega⟩) rfl<|Zo (X.loadSN Zi69 Zs69 (mine_0 KPk_flat hkl 0 (fun _ _ => Nat.zero_le _)) hx rfl (fun _ h => h.1) rfl) rfl<|Zc (X.allocE Zv69 rfl) rfl ?_
  rintro _ w3 ⟨rfl, hB3, hk3, hz3⟩
  refine Zc (X.storeNE Zs69 hB3 rfl rfl rfl rfl (fun u hu => by simp at hu; rcases hu with rfl | rfl <;> rfl)) rfl ?_
  rintro _ w4 ⟨hB4, hx4, hz4⟩
  refine Ze<|Zs<|Zr<|Zo (X.fldB (j := 0) Zu69 rfl rfl Zs9 rfl) rfl<|Zo (X.load1B Zi9 hB4 rfl rfl) rfl<|Zomg rfl rfl<|X.opP X.wN rfl rfl (X.eqD rfl rfl) (fun h21 => ?_) (fun h21 => ?_)
  ·refine Ze<|Zt rfl<|Zs<|X.regionD (fun _ => False) 4 Zl Zl (fun w5 hk5 hz5 => ?_)
   refine ZD 3 rfl Zl (fun w' hk' => X.loadNB Zi69 Zs69 (hB4.keep (hk5.trans hk')) rfl rfl rfl)<|X.dStep (i := 0) Zl rfl (X.dwN rfl) (X.move rfl) (fun _ => Ext.refl _ _)<|X.dStep (i := 1) Zl rfl (X.dwN rfl) (X.nilCk rfl) (fun _ => Ext.refl _ _)<|ZDc 2 rfl Zl (X.fldB (j := 2) Zu105 rfl rfl Zs103 rfl)<|X.dE (i := 4) Zl rfl (X.dwN rfl) (X.callE (fdrop_c x.1 _ (hB.keep ((hk3.step hx4 zq34).trans hk5)) (((hM.keep hk3).ext hx4 (by intros; omega) (fun q h1 h2 => by have := hSw q h1; have h2 : q = _ := h2; omega)).keep hk5) hS.rc Zz hP.nd) Zc39 rfl rfl) (fun _ _ _ h => absurd h (by decide)) ?_
   rintro _ w6 ⟨rfl, Ad, nd, cd, hBd, hMd, hx6⟩
   have hx6' := hx6.size
   refine Zdend Zl<|Zs<|X.regionD (fun _ => False) 5 Zl Zl (fun w7 hk7 hz7 => ?_)
   refine ZD 4 rfl Zl (fun w' hk' => X.loadNB Zi69 Zs69 (((hB4.keep hk5).ext hx6 (by intros; (try simp only []); first | omega | (intro hq; have hq2 := hq; (try simp only [] at hq2); omega) | (intro hzz; rcases hzz with hzz | hzz <;> first | omega | (have := hSw _ hzz; omega)))).keep (hk7.trans hk')) rfl rfl rfl) ?_
   refine X.dStep (i := 0) Zl rfl (X.dwN rfl) (X.move rfl) (fun _ => Ext.refl _ _)<|X.dStep (i := 1) Zl rfl (X.dwN rfl) (X.nilCk rfl) (fun _ => Ext.refl _ _)<|X.dStep (i := 2) Zl rfl (X.dwN rfl) (X.fldB (j := 1) Zu105 rfl rfl Zs101 rfl) (fun _ => Ext.refl _ _)<|ZD 3 rfl Zl (fun w' hk' => X.load1B Zi101 (hBd.keep (hk7.trans hk')) rfl rfl)<|X.dE (i := 5) Zl rfl (X.dwN rfl) (X.deleteV (enc := fun x : PKEY => encPK x) (venc := fun v : Value => v) (a := x.1) Zu101 keyPk (((((hG.keep hk3).ext hx4 (fun h => by have h : bm = _ := h; omega)).keep hk5).ext hx6 (fun h => h.elim (fun h => hS.cm h.symm) hS.rm)).keep hk7) rfl rfl) (fun _ _ _ h => absurd h (by decide)) ?_
   rintro _ w8 ⟨rfl, hGd, hx8, hz8⟩
   refine Zdend Zl<|Zr<|Zomi rfl rfl<|Zo (X.add (c := ((i : Int) - (((s0.L.take i).filter fun p => decide (p.1.1 ≠ nm)).length : Int)) + 1) rfl rfl (X.w_i64 Zz)) rfl<|Zoai rfl rfl<|Ze<|Zi<|Zr<|Zo (X.add rfl rfl (X.w_i64 Zz)) rfl<|Zomi rfl rfl<|Ze ?_
   have hxa : Ext T wl w8 := (Ext.andThen (Ext.andThen (Ext.andThen (Ext.andThen (Ext.andThen (Ext.andThen (Ext.refl (T) _) hk3 zq10) hx4 zq10) hk5 zq10) hx6 zq10) hk7 zq10) hx8 zq10)
   have hcnt := dropTo_cnt (nm := nm) hq
   have hcz : ((i : Int) - (((s0.L.take i).filter fun p => decide (p.1.1 ≠ nm)).length : Int)) + 1 = ((((i + 1 : Nat)) : Int) - (((s0.L.take (i + 1)).filter fun p => decide (p.1.1 ≠ nm)).length : Int)) := by rw [hcnt, if_pos h21]; omega
   have hgone := dropTo_gone hnd0 hq h21
   have q1 : Mine KPk 69 TR 0 0 w8 (.slice Ad nd cd) ((s0.dropTo nm (i + 1)).L.map (·.1)) := by
     rw [Ca.dropTo, hgone, map_filter_ne]
     exact ((hMd.keep hk7).ext hx8 (by intros; omega) (fun q h1 h2 => by have := hSw q h1; have h2 : q = _ := h2; first | omega | exact hS.rm (by rw [← h2]; exact h1)))
   have q2 : Pgs TD w8 (del x.1 mm) (s0.dropTo nm (i + 1)).L := by
     rw [Ca.dropTo, hgone]
     exact (hP.del (Mp_nd hG)).ext (Ext.andThen (Ext.andThen (Ext.andThen (Ext.andThen (Ext.andThen (Ext.andThen (Ext.refl (fun q => q = bc ∨ q = bm ∨ TR q ∨ wl.heap.size ≤ q) _) hk3 zq13) hx4 zq13) hk5 zq13) hx6 zq13) hk7 zq13) hx8 zq13) (fun q h h2 => h2.elim (fun e => hS.dc (by rw [← e]; exact h)) (fun h2 => h2.elim (fun e => hS.dm (by rw [← e]; exact h)) (fun h2 => h2.elim (fun h2 => hS.rd q h2 h) (fun h2 => by have := hS.lt q (hS.td q h); omega))))
   refine hback (i + 1) _ _ ⟨zq27, zq27, zq27, zq27, zq27, zq27, trivial⟩ ⟨by omega, ⟨bm, Ad, nd, cd, _, TR, TD, ((hBd.keep hk7).ext hx8 (by intros; (try simp only []); first | omega | (intro hq; have hq2 := hq; (try simp only [] at hq2); omega) | (intro hzz; rcases hzz with hzz | hzz <;> first | omega | (have := hSw _ hzz; omega)))), q1, hGd, q2, hS.up hxa.size⟩, ((((((hkl.keep hk3).ext hx4 (by intros; omega) (fun q h1 h2 => by have h2 : q = _ := h2; have h1 : w.heap.size ≤ q ∧ q < w2.heap.size := h1; omega)).keep hk5).ext hx6 (by intros; omega) (fun q h1 h2 => by have := hTl q (by first | exact h2.elim (fun e => by rw [e]; exact hS.tc) (hS.tr q) | exact (by have h2 : q = _ := h2; rw [h2]; exact hS.tm)); have h1 : w.heap.size ≤ q ∧ q < w2.heap.size := h1; omega)).keep hk7).ext hx8 (by intros; omega) (fun q h1 h2 => by have := hTl q (by first | exact h2.elim (fun e => by rw [e]; exact hS.tc) (hS.tr q) | exact (by have h2 : q = _ := h2; rw [h2]; exact hS.tm)); have h1 : w.heap.size ≤ q ∧ q < w2.heap.size := h1; omega)), by omega, Ext.andThen hxl hxa (fun q _ h => h)⟩ Zz
  ·refine Ze<|Zf rfl<|Zk<|Zi<|Zr<|Zo (X.add rfl rfl (X.w_i64 Zz)) rfl<|Zomi rfl rfl<|Ze ?_
   have hxa : Ext T wl w4 := (Ext.andThen (Ext.andThen (Ext.refl (T) _) hk3 zq10) hx4 zq10)
   have hcnt := dropTo_cnt (nm := nm) hq
   have hcz : ((i : Int) - (((s0.L.take i).filter fun p => decide (p.1.1 ≠ nm)).length : Int)) = ((((i + 1 : Nat)) : Int) - (((s0.L.take (i + 1)).filter fun p => decide (p.1.1 ≠ nm)).length : Int)) := by rw [hcnt, if_neg h21]; omega
   have hke : s0.dropTo nm i = s0.dropTo nm (i + 1) := congrArg (fun L => ({ s0 with L := L } : Ca)) (dropTo_keep hq h21).symm
   refine hback (i + 1) _ _ ⟨zq27, zq27, zq27, zq27, zq27, zq27, trivial⟩ ⟨by omega, hke ▸ ⟨bm, A, n, c, mm, TR, TD, (hB.keep (hk3.step hx4 zq34)), ((hM.keep hk3).ext hx4 (by intros; omega) (fun q h1 h2 => by have := hSw q h1; have h2 : q = _ := h2; first | omega | exact hS.rm (by rw [← h2]; exact h1))), ((hG.keep hk3).ext hx4 (fun h => by have h : bm = _ := h; omega)), hP.ext (Ext.andThen (Ext.andThen (Ext.refl (fun q => wl.heap.size ≤ q) _) hk3 (by intro q h1 h2; first | exact (h2 : False).elim | (have h2 : q = _ := h2; omega))) hx4 (by intro q h1 h2; first | exact (h2 : False).elim | (have h2 : q = _ := h2; omega))) (fun q h h2 => by have := hS.lt q (hS.td q h); have h2 : wl.heap.size ≤ q := h2; omega), hS.up hxa.size⟩, ((hkl.keep hk3).ext hx4 (by intros; omega) (fun q h1 h2 => by have h2 : q = _ := h2; have h1 : w.heap.size ≤ q ∧ q < w2.heap.size := h1; omega)), by omega, Ext.andThen hxl hxa (fun q _ h => h)⟩ Zz
 ·refine Ze<|Zs<|Zf rfl<|Zx rfl<|Zs<|Zr<|Zomi rfl rfl<|Zoai rfl rfl<|Ze<|X.ret1 (v := (.int .i64 _)) Tryz.func11 Tryz.results11 rfl ?_
  have hin : i = s0.L.length := by rw [List.length_map] at *; omega
  have hCe : CaIn T wl bc (s0.dropTo nm i) := ⟨bm, A, n, c, mm, TR, TD, hB, hM, hG, hP, hS⟩
  rw [hin, Ca.dropTo, dropTo_end] at hCe
  subst hin
  refine ⟨?_, hCe, hxl⟩
  rw [Ca.drop, List.take_length]
abbrev HL := PKEY × HDR
def KHd : Kd HL := Kd.plain 3 (fun x => [.string x.1.1, .int .i64 x.1.2, .slice x.2.1 x.2.2.1 x.2.2.2]) (fun _ => True) (fun _ => rfl) (fun _ u hu => by simp at hu; rcases hu with rfl | rfl | rfl <;> rfl)
structure Lps (TB : Nat → Prop) (w : World) (hs : List HL) (ps : PGS) : Prop where
  len : hs.length = ps.length
  get : ∀ (i : Nat) h p, hs[i]? = some h → ps[i]? = some p → h.1 = p.1 ∧ ∃ lo hi, (∀ k, lo ≤ k → k < hi → TB k) ∧ Sl KC lo hi w h.2.1 h.2.2.1 p.2
theorem Lps.ext {TB U : Nat → Prop} {w w' : World} {hs : List HL} {ps : PGS} (h : Lps TB w hs ps) (x : Ext U w w') (hU : ∀ k, TB k → ¬ U k) : Lps TB w' hs ps :=
  ⟨h.len, fun i a p h1 h2 => let ⟨g1, lo, hi, g2, g3⟩ := h.get i a p h1 h2; ⟨g1, lo, hi, g2, g3.ext x fun k a b => hU k (g2 k a b)⟩⟩
theorem Lps.keep {TB : Nat → Prop} {w w' : World} {hs : List HL} {ps : PGS} (h : Lps TB w hs ps) (x : Keep w w') : Lps TB w' hs ps := h.ext x fun _ _ h => h
theorem Lps.cons {TB TC : Nat → Prop} {w : World} {hs : List HL} {ps : PGS} {h : HL} {p : PKEY × List CD} (hl : Lps TB w hs ps) (hT : ∀ k, TB k → TC k) (h1 : h.1 = p.1) {lo hi : Nat} (h2 : ∀ k, lo ≤ k → k < hi → TC k) (h3 : Sl KC lo hi w h.2.1 h.2.2.1 p.2) : Lps TC w (h :: hs) (p :: ps) := by
  refine ⟨by simp [hl.len], fun i a q g1 g2 => ?_⟩
  cases i with
  | zero => simp at g1 g2; subst g1 g2; exact ⟨h1, lo, hi, h2, h3⟩
  | succ i =>
    simp at g1 g2
    obtain ⟨e1, lo', hi', e2, e3⟩ := hl.get i a q g1 g2
    exact ⟨e1, lo', hi', fun k a b => hT k (e2 k a b), e3⟩
structure Rm (r : Nat) (s : Ca) (ps : PGS) (N : Nat) : Prop where
  room : s.room = (r : Int)
  len : s.L.length ≤ r
  new : ∀ q, q ∈ s.L → asc q.1 ps = some q.2
  h : 0 ≤ s.h ∧ s.h ≤ N
  m : 0 ≤ s.m ∧ s.m ≤ N
  g : 0 ≤ s.g ∧ s.g ≤ N
theorem CaIn.nd {T : Nat → Prop} {w : World} {bc : Nat} {s : Ca} (h : CaIn T w bc s) : (s.L.map (·.1)).Nodup := by
  obtain ⟨bm, A, n, c, mm, TR, TD, hB, hM, hG, hP, hS⟩ := h; exact hP.nd
theorem Rm.up {r : Nat} {s : Ca} {ps : PGS} {N M : Nat} (h : Rm r s ps N) (hm : N ≤ M) : Rm r s ps M := { h with h := ⟨h.h.1, by have := h.h.2; omega⟩, m := ⟨h.m.1, by have := h.m.2; omega⟩, g := ⟨h.g.1, by have := h.g.2; omega⟩ }
theorem Rm.nil (r : Nat) : Rm r ⟨r, [], 0, 0, 0⟩ [] 0 := ⟨rfl, Nat.zero_le _, fun q hq => by simp at hq, by simp, by simp, by simp⟩
theorem Rm.put {r : Nat} {s : Ca} {ps : PGS} {N : Nat} (h : Rm r s ps N) (k : PKEY) (p : List CD) : Rm r (s.put k p) ((k, p) :: ps) (N + 1) := by
  have hg := h.g; have hh := h.h; have hm := h.m; have hr := h.room; have hl := h.len
  have hn : ∀ q, q ∈ (k, p) :: (s.L.filter fun q => decide (q.1 ≠ k)) → asc q.1 ((k, p) :: ps) = some q.2 := fun q hq => by
    rcases List.mem_cons.1 hq with rfl | hq
    · simp [asc]
    · obtain ⟨h1, h2⟩ := List.mem_filter.1 hq
      rw [asc, if_neg (by simpa using h2)]
      exact h.new q h1
  have hfl := List.length_filter_le (fun q : PKEY × List CD => decide (q.1 ≠ k)) s.L
  unfold Ca.put
  split
  · rename_i h0
    have hL : s.L = [] := List.eq_nil_of_length_eq_zero Zz
    exact ⟨hr, hl, fun q hq => by rw [hL] at hq; simp at hq, ⟨hh.1, by omega⟩, ⟨hm.1, by omega⟩, ⟨hg.1, by omega⟩⟩
  · split
    · exact ⟨hr, by dsimp only; rw [List.length_dropLast, List.length_cons]; omega, fun q hq => hn q (List.dropLast_subset _ hq), ⟨hh.1, by dsimp only; omega⟩, ⟨hm.1, by dsimp only; omega⟩, ⟨by dsimp only; omega, by dsimp only; omega⟩⟩
    · exact ⟨hr, by dsimp only; omega, hn, ⟨hh.1, by dsimp only; omega⟩, ⟨hm.1, by dsimp only; omega⟩, ⟨hg.1, by dsimp only; omega⟩⟩
theorem Rm.drop {r : Nat} {s : Ca} {ps : PGS} {N : Nat} (h : Rm r s ps N) (nm : ByteArray) : Rm r (s.drop nm) ps N :=
  { h with len := Nat.le_trans (List.length_filter_le _ _) h.len, new := fun q hq => h.new q (List.mem_filter.1 hq).1 }
theorem filter_lt {k : PKEY} {p : List CD} {L : PGS} (h : (k, p) ∈ L) : (L.filter fun q => decide (q.1 ≠ k)).length + 1 ≤ L.length := by
  induction L with
  | nil => simp at h
  | cons q L ih =>
    rw [List.filter_cons]
    rcases List.mem_cons.1 h with rfl | h
    · rw [if_neg (by simp)]
      have := List.length_filter_le (fun q : PKEY × List CD => decide (q.1 ≠ k)) L
      rw [List.length_cons]; omega
    · split
      · rw [List.length_cons, List.length_cons]; have := ih h; omega
      · rw [List.length_cons]; have := ih h; omega
theorem Rm.get {r : Nat} {s : Ca} {ps : PGS} {N : Nat} (h : Rm r s ps N) (k : PKEY) : Rm r (s.get k) ps (N + 1) := by
  have hg := h.g; have hh := h.h; have hm := h.m
  unfold Ca.get
  split
  · exact ⟨h.room, h.len, h.new, ⟨hh.1, by dsimp only; omega⟩, ⟨by dsimp only; omega, by dsimp only; omega⟩, ⟨hg.1, by dsimp only; omega⟩⟩
  · rename_i p e
    have hp := asc_some e
    refine ⟨h.room, ?_, fun q hq => ?_, ⟨by dsimp only; omega, by dsimp only; omega⟩, ⟨hm.1, by dsimp only; omega⟩, ⟨hg.1, by dsimp only; omega⟩⟩
    · have h1 := filter_lt hp; have h2 := h.len
      dsimp only; rw [List.length_cons]; omega
    · rcases List.mem_cons.1 hq with rfl | hq
      · exact h.new _ hp
      · exact h.new q (List.mem_filter.1 hq).1
abbrev reL (rm : Int) (A : Option Addr) (n c : Nat) (h ms g : Int) : List Value := [.int .i64 rm, .slice A n c, .int .i64 h, .int .i64 ms, .int .i64 g]
def ReIn (TB : Nat → Prop) (w : World) (rb : Nat) (s : Ca) : Prop := ∃ A n c hs lo hi, Blk w rb (reL s.room A n c s.h s.m s.g) 65 ∧ Sl KHd lo hi w A n hs ∧ (∀ k, lo ≤ k → k < hi → TB k) ∧ hi ≤ w.heap.size ∧ n ≤ c ∧ Lps TB w hs s.L ∧ ¬ TB rb ∧ ∀ k, TB k → k < w.heap.size
theorem ReIn.ext {TB U : Nat → Prop} {w w' : World} {rb : Nat} {s : Ca} (h : ReIn TB w rb s) (x : Ext U w w') (hU : ∀ k, TB k → ¬ U k) (hr : ¬ U rb) : ReIn TB w' rb s := by
  obtain ⟨A, n, c, hs, lo, hi, h1, h2, h3, h4, h5, h6, h7, h8⟩ := h
  have := x.size
  exact ⟨A, n, c, hs, lo, hi, h1.ext x hr, h2.ext x (fun k a b => hU k (h3 k a b)), h3, by omega, h5, h6.ext x hU, h7, fun k h => by have := h8 k h; omega⟩
theorem ReIn.keep {TB : Nat → Prop} {w w' : World} {rb : Nat} {s : Ca} (h : ReIn TB w rb s) (x : Keep w w') : ReIn TB w' rb s := h.ext x (fun _ _ h => h) (fun h => h)
theorem Lps.mono {TB TC : Nat → Prop} {w : World} {hs : List HL} {ps : PGS} (h : Lps TB w hs ps) (hT : ∀ k, TB k → TC k) : Lps TC w hs ps :=
  ⟨h.len, fun i a p h1 h2 => let ⟨g1, lo, hi, g2, g3⟩ := h.get i a p h1 h2; ⟨g1, lo, hi, fun k a b => hT k (g2 k a b), g3⟩⟩
theorem Lps.snoc {TB : Nat → Prop} {w : World} {hs : List HL} {ps : PGS} {x : HL} {p : PKEY × List CD} (hl : Lps TB w hs ps) (h1 : x.1 = p.1) {lo hi : Nat} (h2 : ∀ k, lo ≤ k → k < hi → TB k) (h3 : Sl KC lo hi w x.2.1 x.2.2.1 p.2) : Lps TB w (hs ++ [x]) (ps ++ [p]) := by
  refine ⟨by simp [hl.len], fun i a q g1 g2 => ?_⟩
  have hlen := hl.len
  rcases Nat.lt_or_ge i hs.length with hi' | hi'
  · rw [List.getElem?_append_left hi'] at g1
    rw [List.getElem?_append_left Zz] at g2
    exact hl.get i a q g1 g2
  · rw [List.getElem?_append_right hi'] at g1
    rw [List.getElem?_append_right Zz] at g2
    have e : i - hs.length = 0 := by
      have := (List.getElem?_eq_some_iff.1 g1).1
      simpa using this
    rw [e] at g1
    rw [show i - ps.length = 0 by omega] at g2
    simp at g1 g2
    subst g1 g2
    exact ⟨h1, lo, hi, h2, h3⟩
theorem Lps.take {TB : Nat → Prop} {w : World} {hs : List HL} {ps : PGS} (h : Lps TB w hs ps) (r : Nat) : Lps TB w (hs.take r) (ps.take r) := by
  refine ⟨by rw [List.length_take, List.length_take, h.len], fun i a q g1 g2 => ?_⟩
  rw [List.getElem?_take] at g1 g2
  split at g1
  · rename_i hr
    rw [if_pos hr] at g2
    exact h.get i a q g1 g2
  · cases g1
section
variable {P : Program} {ρ : Operand → Value} {w : World} {dst : Option Tmp} {ty : TypeId} {pos : String} {aft : Array Edge} {g : Option (Nat × Bool)}
end
theorem ReIn.grow {TB TC : Nat → Prop} {w : World} {rb : Nat} {s : Ca} (h : ReIn TB w rb s) (hT : ∀ k, TB k → TC k) (hr : ¬ TC rb) (hl : ∀ k, TC k → k < w.heap.size) : ReIn TC w rb s := by
  obtain ⟨A, n, c, hs, lo, hi, h1, h2, h3, h4, h5, h6, h7, h8⟩ := h
  exact ⟨A, n, c, hs, lo, hi, h1, h2, fun k a b => hT k (h3 k a b), h4, h5, h6.mono hT, hr, hl⟩
def symE : ByteArray := ⟨#[97, 32, 108, 111, 110, 103, 101, 114, 32, 115, 121, 109, 98, 111, 108, 44, 32, 115, 111, 32, 116, 104, 97, 116, 32, 112, 97, 103, 101, 115, 32, 97, 114, 101, 32, 109, 97, 110, 121]⟩
def tupE (i : Nat) : List VAL := [(1, (i : Int), ⟨#[]⟩), (2, 0, symE)]
def entsE (n : Nat) : List CD := (List.range n).map fun i => (tupE i, 1)
def nmA : ByteArray := ⟨#[97]⟩
theorem entsE_len (n : Nat) : (entsE n).length = n := by rw [entsE, List.length_map, List.length_range]
theorem entsE_at {n i : Nat} (h : i < n) : (entsE n)[i]? = some (tupE i, 1) := by rw [entsE, List.getElem?_map, List.getElem?_range h]; rfl
theorem isTE (i : Nat) : isT (tupE i) = true := by
  rw [isT, tupE]; rfl
theorem okVE {i : Nat} (h : i ≤ 100) : ∀ v, v ∈ tupE i → okV v := by
  intro v hv
  rw [tupE] at hv
  rcases List.mem_cons.1 hv with rfl | hv
  · exact ⟨⟨show (-9223372036854775808 : Int) ≤ 1 by decide, show (1 : Int) ≤ 9223372036854775807 by decide⟩, ⟨by simp only []; omega, by simp only []; omega⟩, (by decide : (⟨#[]⟩ : ByteArray).size ≤ _)⟩
  · rcases List.mem_cons.1 hv with rfl | hv
    · exact ⟨⟨by decide, by decide⟩, ⟨by decide, by decide⟩, (by decide : symE.size ≤ _)⟩
    · cases hv
theorem oksE {n : Nat} (h : n ≤ 100) : Oks (entsE n) := by
  intro q hq
  obtain ⟨i, hi, rfl⟩ := List.mem_map.1 hq
  have := List.mem_range.1 hi
  exact ⟨show okI 1 from ⟨by decide, by decide⟩, okVE Zz⟩
theorem cmpE {i j : Nat} (h : i < j) : cmpT (tupE i) (tupE j) < 0 := by
  have hc : cmpV (1, (i : Int), ⟨#[]⟩) (1, (j : Int), ⟨#[]⟩) = -1 := by
    rw [cmpV, if_neg (by simp; omega), if_pos (.inr ⟨rfl, .inl (by simp only []; omega)⟩)]
  rw [tupE, tupE, cmpT, hc]; decide
theorem rE (n : Nat) : isR (entsE n) = true := isR_of (fun q hq => by
    obtain ⟨i, hi, rfl⟩ := List.mem_map.1 hq
    exact ⟨isTE i, show (1 : Int) ≠ 0 by decide⟩) (fun i p q hp hq => by
    have h1 := (List.getElem?_eq_some_iff.1 hp).1
    have h2 := (List.getElem?_eq_some_iff.1 hq).1
    rw [entsE_len] at h1 h2
    rw [entsE_at h1] at hp
    rw [entsE_at h2] at hq
    cases hp
    cases hq
    exact cmpE (Nat.lt_succ_self i))
theorem goodE {n : Nat} (h : n ≤ 100) : Good (entsE n) := ⟨oksE h, rE n, by rw [entsE_len]; exact h⟩
theorem symE_len : symE.data.toList.length = 39 := by decide
theorem tupE_len {i : Nat} (h : i ≤ 100) : (tupB (tupE i)).length ≤ 63 ∧ (keyB (tupE i)).length ≤ 90 := by
  have h1 := numB_10 (zig (i : Int)) (zig_ok _ ⟨by omega, by omega⟩).2
  have h2 := numB_le (k := 39) (by decide)
  have h3 := esc_len symE.data.toList
  rw [symE_len] at h3
  have e1 : (valB (1, (i : Int), ⟨#[]⟩)).length ≤ 11 := by rw [valB, if_pos rfl, List.length_cons]; dsimp only; omega
  have e2 : (valB (2, 0, symE)).length ≤ 51 := by rw [valB, if_neg (by decide), List.length_cons, textB, List.length_append, symE_len]; omega
  have e3 : (valK (1, (i : Int), ⟨#[]⟩)).length = 9 := by rw [valK, if_pos rfl, List.length_cons, List.length_map, List.length_range]
  have e4 : (valK (2, 0, symE)).length ≤ 81 := by rw [valK, if_neg (by decide), List.length_cons, List.length_append]; simp only [List.length_cons, List.length_nil]; omega
  constructor
  · rw [tupB, List.length_cons, tupE, List.flatMap_cons, List.flatMap_cons, List.flatMap_nil, List.length_append, List.length_append, List.length_nil]; omega
  · rw [keyB, tupE, List.flatMap_cons, List.flatMap_cons, List.flatMap_nil, List.length_append, List.length_append, List.length_nil]; omega
theorem entE_len {n : Nat} (h : n ≤ 100) : ∀ q ∈ entsE n, (entB q).length ≤ 80 := fun q hq => by
  obtain ⟨i, hi, rfl⟩ := List.mem_map.1 hq
  have := (tupE_len (i := i) (by have := List.mem_range.1 hi; omega)).1
  have h1 := numB_10 (zig 1) (zig_ok _ ⟨by decide, by decide⟩).2
  rw [entB_T (isTE i), cntB, List.length_append]; simp only []; omega
theorem run_lens' (l : List CD) : (runB l).length = ((pgs l).flatMap pageB).length + (idxB (pgs l) l.length).length + 8 := by
  have ht8 : (tailB (idxB (pgs l) l.length).length).length = 8 := by rw [tailB, seal_len]; rfl
  rw [runB, List.length_append, List.length_append, ht8]
theorem szE {n : Nat} (h : n ≤ 60) : (runB (entsE n)).length ≤ 14000 := by
  have hF := Fit.of (oksE (n := n) Zz) (by rw [entsE_len]; omega)
  have h1 := page_sum (pgs (entsE n)) fun p hp => (hF.page hp).2.1
  rw [flat_flat, pgs_flat] at h1
  have h2 := len_flat (f := entB) (k := 80) (l := entsE n) (entE_len Zz)
  have h3 := pgs_len (entsE n)
  have h4 := len_flat (f := leafB) (k := 115) (l := pgs (entsE n)) fun p hp => by
    obtain ⟨q, hq, e⟩ := head_at (pgs_ne hp)
    have hqm := pgs_sub hp q (List.mem_of_getElem? hq)
    obtain ⟨i, hi, rfl⟩ := List.mem_map.1 hqm
    have a1 := (tupE_len (i := i) (by have := List.mem_range.1 hi; omega)).2
    have a2 := numB_le (k := (pageB p).length) (by have := pageB_fit (hF.page hp).2.1 (hF.page hp).2.2; omega)
    have a3 := numB_le (k := (keyB (tupE i)).length) Zz
    rw [leafB, textB, List.length_append, List.length_append, e]; simp only []; omega
  rw [entsE_len] at h2 h3
  have h5 := numB_le (k := (pgs (entsE n)).length) Zz
  have h6 := numB_le (k := n) Zz
  rw [run_lens', idxB, seal_len, List.length_append, List.length_append, entsE_len]
  omega
theorem wE {n : Nat} (h : n ≤ 60) : ((DS.mk0 400 [] [] []).runW nmA (entsE n)).1 = 0 := runW_new (by decide) (rE n) (by have := szE h; omega) (by have := szE h; rw [secs]; omega)
theorem entsE_snoc (i : Nat) : entsE (i + 1) = entsE i ++ [(tupE i, 1)] := by rw [entsE, List.range_succ, List.map_append]; rfl
theorem repsV2 {w : World} {x y : VAL} (h : okV x) (h2 : okV y) : RepsV KV w [x, y] [.agg (encV x).toArray, .agg (encV y).toArray] := ⟨⟨encV x, rfl, rfl, h⟩, ⟨encV y, rfl, rfl, h2⟩, trivial⟩
theorem okE1 {i : Nat} (h : i ≤ 100) : okV (1, (i : Int), ⟨#[]⟩) := okVE h _ List.mem_cons_self
theorem okE2 : okV (2, 0, symE) := okVE (i := 0) (by decide) _ (List.mem_cons_of_mem _ List.mem_cons_self)
theorem entries_c (n : Nat) (hn : n ≤ 100) (w : World) : Ret Tryz.prog 8 #[.int .i64 (n : Int)] w fun r w' => ∃ A c, r = .slice A n c ∧ n ≤ c ∧ Sl KC w.heap.size w'.heap.size w' A n (entsE n) ∧ Keep w w' := by
 refine X.enter Tryz.func8 rfl Tryz.ntmps8 rfl<|Zs<|Zr<|Zoa rfl rfl<|Ze<|Zs<|Zr<|Zoa rfl rfl<|Ze<|Zs<|Zs<|Zr<|Zoa rfl rfl<|Ze<|Zb<|X.loopL (σ := Nat × Value) (fun s => [(0, .int .i64 (n : Int)), (3, s.2), (4, .int .i64 (s.1 : Int))]) (fun s w' => s.1 ≤ n ∧ Keep w w' ∧ ∃ L S G, NRow NdCt 92 w.heap.size w'.heap.size S G w' s.2 L (entsE s.1)) (fun s => n - s.1) (0, .slice none 0 0) ⟨rfl, rfl, rfl, trivial⟩ ⟨Nat.zero_le _, (Keep.refl _), [], _, _, NRow.nil _ _ _ _ (Nat.le_refl _)⟩ ?_
 rintro ⟨i, v⟩ b wo ⟨hi0, hk, L, S, G, hNR⟩ hback
 dsimp only at hi0 hNR
 have hk0 := hk.size
 refine Zs<|Zs<|Zr<|Zomi rfl rfl<|Zomi rfl rfl<|X.opP X.wN rfl rfl (X.lss rfl rfl) (fun h7 => ?_) (fun h7 => ?_)
 ·refine Ze<|Zt rfl<|Zk<|Zs<|Zb<|Zr<|Zom rfl rfl<|Zomi rfl rfl<|Zo (X.buildB (vs := [(0, .int .i64 1), (1, .int .i64 (i : Int))]) (cs := #[.int .i64 1, .int .i64 (i : Int), .string ⟨#[]⟩]) rfl Zl) rfl<|Zo (X.buildB (vs := [(0, .int .i64 2), (2, .string symE)]) (cs := #[.int .i64 2, .int .i64 0, .string symE]) rfl Zl) rfl<|Zc (X.litKF KV_flat (K := KV) (xs := [Operand.tmp 12, Operand.tmp 13]) (vs := [.agg (encV (1, (i : Int), ⟨#[]⟩)).toArray, .agg (encV (2, 0, symE)).toArray]) (ys := [((1, (i : Int), ⟨#[]⟩) : VAL), ((2, 0, symE) : VAL)]) Zu90 Tryz.sizeOf88 Tryz.zeroValue88 rfl rfl rfl rfl rfl (repsV2 (okE1 Zz) okE2)) rfl ?_
  rintro _ w1 ⟨rfl, hs1, hB1, hk1, hz1⟩
  refine Zo (X.buildB (vs := [(0, .slice (some ⟨wo.heap.size, 0, none⟩) 2 2), (1, .int .i64 1)]) (cs := #[.slice (some ⟨wo.heap.size, 0, none⟩) 2 2, .int .i64 1]) rfl Zl) rfl<|Zc (X.litKF KCt_flat (K := KCt) (xs := [Operand.tmp 15]) (vs := [evC (((some ⟨wo.heap.size, 0, none⟩, 2, 2) : HDR), 1)]) (ys := [(((some ⟨wo.heap.size, 0, none⟩, 2, 2) : HDR), 1)]) Zu29 Zs92 Zv92 rfl rfl rfl rfl rfl (repsC _)) rfl ?_
  rintro _ w2 ⟨rfl, hs2, hB2, hk2, hz2⟩
  refine Zc (NRow.app (y := ((((some ⟨wo.heap.size, 0, none⟩, 2, 2) : HDR), 1) : CT)) (q := ((tupE i, 1) : CD)) (hNR.keep (hk1.trans hk2)) hs2 ⟨rfl, show okI 1 from ⟨by decide, by decide⟩, Nat.le_refl _, _, _, fun _ h1 h2 => ⟨h1, h2⟩, show Sl KV _ _ _ _ 2 (tupE i) from (hs1.keep hk2)⟩ Zz Zz Zz Zu29 ECt rfl rfl (by rw [entsE_len]; omega)) rfl ?_
  rintro _ w3 ⟨Aq, cq, S', G', rfl, hNn, hx3⟩
  have hx3' := hx3.size
  refine Zoa rfl rfl<|Ze<|Zi<|Zr<|Zomi rfl rfl<|Zo (X.add rfl rfl (X.w_i64 Zz)) rfl<|Zoai rfl rfl<|Ze ?_
  refine hback (i + 1, _) _ _ ⟨rfl, rfl, rfl, trivial⟩ ⟨by omega, (((hk.trans hk1).trans hk2).step hx3 zq25), _, _, _, by (try dsimp only); rw [entsE_snoc]; exact (hNn).all⟩ (by (try dsimp only); omega)
 ·have hin : i = n := by omega
  subst hin
  refine Ze<|Zf rfl<|Zx rfl<|Zs<|Zr<|Zom rfl rfl<|Zoa rfl rfl<|Ze<|X.ret1 Tryz.func8 Tryz.results8 rfl ?_
  obtain ⟨Az, cz, rfl, hcz, hsz⟩ := nrow_kc hNR
  rw [entsE_len] at hcz hsz ⊢
  exact ⟨_, _, rfl, hcz, hsz.wide (Nat.le_refl _) Zz, hk⟩
theorem read_len (s : DS) (nm : ByteArray) (a : Int) (n : Nat) : (s.read nm a (n : Int)).1.length ≤ n := by
  rw [DS.read]
  repeat' split
  all_goals simp
  all_goals omega
def pageF (s : DS) (nm : ByteArray) (lv : List LEAF) (i : Int) : List CD × Int := if i < 0 ∨ (lv.length : Int) ≤ i then ([], 5) else match lv[i.toNat]? with
  | none => ([], 5)
  | some q => if (s.read nm (q.1 : Int) (q.2.1 : Int)).2 ≠ 0 then ([], (s.read nm (q.1 : Int) (q.2.1 : Int)).2) else match pgP (s.read nm (q.1 : Int) (q.2.1 : Int)).1 q.2.2 with
    | none => ([], 71)
    | some p => (p, 0)
theorem pageF_o {s : DS} {nm : ByteArray} {lv : List LEAF} {i : Int} (h : i < 0 ∨ (lv.length : Int) ≤ i) : pageF s nm lv i = ([], 5) := if_pos h
theorem pageF_e {s : DS} {nm : ByteArray} {lv : List LEAF} {i : Nat} {q : LEAF} (h : lv[i]? = some q) (h2 : (s.read nm (q.1 : Int) (q.2.1 : Int)).2 ≠ 0) : pageF s nm lv (i : Int) = ([], (s.read nm (q.1 : Int) (q.2.1 : Int)).2) := by
  have := (List.getElem?_eq_some_iff.1 h).1
  rw [pageF, if_neg Zz, Int.toNat_natCast, h]; exact if_pos h2
theorem pageF_n {s : DS} {nm : ByteArray} {lv : List LEAF} {i : Nat} {q : LEAF} (h : lv[i]? = some q) (h2 : (s.read nm (q.1 : Int) (q.2.1 : Int)).2 = 0) (h3 : pgP (s.read nm (q.1 : Int) (q.2.1 : Int)).1 q.2.2 = none) : pageF s nm lv (i : Int) = ([], 71) := by
  have := (List.getElem?_eq_some_iff.1 h).1
  rw [pageF, if_neg Zz, Int.toNat_natCast, h]; simp only []; rw [if_neg (fun e => e h2), h3]
theorem pageF_s {s : DS} {nm : ByteArray} {lv : List LEAF} {i : Nat} {q : LEAF} {p : List CD} (h : lv[i]? = some q) (h2 : (s.read nm (q.1 : Int) (q.2.1 : Int)).2 = 0) (h3 : pgP (s.read nm (q.1 : Int) (q.2.1 : Int)).1 q.2.2 = some p) : pageF s nm lv (i : Int) = (p, 0) := by
  have := (List.getElem?_eq_some_iff.1 h).1
  rw [pageF, if_neg Zz, Int.toNat_natCast, h]; simp only []; rw [if_neg (fun e => e h2), h3]
theorem pageF_ok {s : DS} {nm : ByteArray} {lv : List LEAF} {i : Int} (hb : ∀ q ∈ lv, q.1 + q.2.1 ≤ 1000000) : okPg (pageF s nm lv i).1 := by
  have hnil : okPg [] := ⟨by simp, fun q hq => (by cases hq)⟩
  rw [pageF]
  split
  · exact hnil
  · split
    · exact hnil
    · rename_i q hq
      split
      · exact hnil
      · split
        · exact hnil
        · rename_i p hp
          obtain ⟨a1, a2, a3⟩ := pgP_fit hp
          have h1 := read_len s nm (q.1 : Int) q.2.1
          have h2 := count_le a3
          have h3 := hb q (List.mem_of_getElem? hq)
          exact ⟨by simp only []; omega, fun x hx => by have := isT_len (a3 x hx); omega⟩
theorem Name_c {lo hi r b k : Nat} {nm : ByteArray} {l : List LEAF} (w : World) (h : RunO lo hi w r b nm l k) : Ret Tryz.prog 40 #[ptrV r] w fun v w' => v = .string nm ∧ Keep w w' := by
 obtain ⟨A, c, hB, hlc, hL⟩ := id h
 refine X.enter Tryz.func40 rfl Tryz.ntmps40 rfl<|Zs<|Zr<|Zoa rfl rfl<|Ze<|Zs<|Zs<|Zr<|Zom rfl rfl<|Zc (X.callE (made_c _ (h.keep (Keep.refl _))) Tryz.call87 rfl rfl) rfl ?_
 rintro _ w1 ⟨rfl, hk1⟩
 have hk1' := hk1.size
 refine Zo (X.not_ rfl) rfl<|Ze<|Zf rfl<|Zk<|Zs<|Zr<|Zom rfl rfl<|Zo (X.nilCk rfl) rfl<|Zo (X.fldB (j := 1) Zu100 rfl rfl Zs9 rfl) rfl<|Zo (X.load1B Zi9 (hB.keep hk1) rfl rfl) rfl<|Zoag rfl rfl<|Ze<|X.ret1 (v := (.string _)) Tryz.func40 Tryz.results40 rfl ?_
 exact ⟨rfl, hk1⟩
theorem Page_oob {lo hi r b k : Nat} {nm : ByteArray} {l : List LEAF} (w : World) (h : RunO lo hi w r b nm l k) (i : Int) (hi' : i < 0 ∨ (l.length : Int) ≤ i) : Ret Tryz.prog 13 #[ptrV r, .int .i64 i] w fun rv w' => rv = .tuple #[.slice none 0 0, .int .i64 5] ∧ Keep w w' := by
 obtain ⟨A, c, hB, hlc, hL⟩ := id h
 refine X.enter Zf13 rfl Tryz.ntmps13 rfl<|Zs<|Zr<|Zoa rfl rfl<|Zoa rfl rfl<|Ze<|Zs<|Zr<|Zom rfl rfl<|Zomi rfl rfl<|Zc (X.callE (at_bad _ h i hi') Tryz.call41 rfl rfl) rfl ?_
 rintro _ w1 ⟨rfl, hk1⟩
 have hk1' := hk1.size
 refine Zom rfl rfl<|Zo (X.extr rfl rfl) rfl<|Zo (X.extr rfl rfl) rfl<|Zc (X.allocE Tryz.zeroValue109 rfl) rfl ?_
 rintro _ w2 ⟨rfl, hB2, hk2, hz2⟩
 refine Zc (X.storeNE Tryz.sizeOf109 hB2 rfl rfl rfl rfl (fun u hu => by simp at hu; rcases hu with rfl | rfl | rfl <;> rfl)) rfl ?_
 rintro _ w3 ⟨hB3, hx3, hz3⟩
 refine Zoai rfl rfl<|Ze<|Zs<|Zs<|Zr<|Zomi rfl rfl<|X.opP X.wN rfl rfl (X.neI rfl rfl) (fun h16 => ?_) (fun h16 => ?_)
 ·refine Ze<|Zt rfl<|Zs<|Zr<|Zomi rfl rfl<|Zoa rfl rfl<|Zoai rfl rfl<|Ze<|X.ret2 (v2 := (.int .i64 _)) Zf13 Zr13 rfl rfl ?_
  exact ⟨rfl, ((hk1.trans hk2).step hx3 zq25)⟩
 ·exact absurd (by decide : ¬ (5 : Int) = 0) h16
theorem page_e2 {lo hi lo1 hi1 : Nat} {A A1 : Option Addr} {n c n1 c1 : Nat} {xs : List UInt8} {t : List VAL} (w : World) (hs : Sl KB lo hi w A n xs) (hhi : hi ≤ w.heap.size) (hnc : n ≤ c) (hn : n ≤ 1000000) (ht : Sl KV lo1 hi1 w A1 n1 t) (hh1 : hi1 ≤ w.heap.size) (hTb : TabOk w) : Ret Tryz.prog 42 #[.slice A n c, .slice A1 n1 c1] w fun r w' => ∃ (b1 : Option Addr) (bn bc : Nat) (b2 : Int), r = .tuple #[.slice b1 bn bc, .int .i64 b2] ∧ (b2 ≠ 0 → pgP xs t = none ∧ b1 = none ∧ bn = 0 ∧ bc = 0 ∧ b2 = 71) ∧ (b2 = 0 → ∃ p L m S G, pgP xs t = some p ∧ NRow NdCt 92 w.heap.size m S G w' (.slice b1 bn bc) L p) ∧ Keep w w' := by
  refine (page_c w hs hhi hnc hn ht hh1 hTb).mono ?_
  rintro r w' ⟨h, hk⟩
  revert h
  cases pgP xs t with
  | none => rintro rfl; exact ⟨_, _, _, _, rfl, fun _ => ⟨rfl, rfl, rfl, rfl, rfl⟩, fun h => absurd h (by decide), hk⟩
  | some p =>
    rintro ⟨v, L, m, S, G, rfl, hN⟩
    obtain ⟨A, c, rfl, _⟩ := nrow_cts hN
    exact ⟨_, _, _, _, rfl, fun h => absurd rfl h, fun _ => ⟨p, L, m, S, G, rfl, hN⟩, hk⟩
theorem PageF_c {col : Nat → Nat} {s : DS} {lo hi r b k : Nat} {nm : ByteArray} {l : List LEAF} (w : World) (h : RunO lo hi w r b nm l k) (hhi : hi ≤ w.heap.size) (hD : DkR col w b s) (hok : s.Ok) (hTb : TabOk w) (i : Nat) {q : LEAF} (hq : l[i]? = some q) (hq1 : q.1 + q.2.1 ≤ 1000000) : Ret Tryz.prog 13 #[ptrV r, .int .i64 (i : Int)] w fun rv w' => ∃ A c, rv = .tuple #[.slice A (pageF s nm l (i : Int)).1.length c, .int .i64 (pageF s nm l (i : Int)).2] ∧ Sl KC w.heap.size w'.heap.size w' A (pageF s nm l (i : Int)).1.length (pageF s nm l (i : Int)).1 ∧ Keep w w' := by
 obtain ⟨Aq, cq, hBq, _⟩ := id h
 have hrl := read_len s nm (q.1 : Int) q.2.1
 refine X.enter Zf13 rfl Tryz.ntmps13 rfl<|Zs<|Zr<|Zoa rfl rfl<|Zoa rfl rfl<|Ze<|Zs<|Zr<|Zom rfl rfl<|Zomi rfl rfl<|Zc (X.callE (at_ok _ (h.keep (Keep.refl _)) i hq) Tryz.call41 rfl rfl) rfl ?_
 rintro _ w1 ⟨⟨At, nt, ct, rfl, hnt, hts⟩, hk1⟩
 have hk1' := hk1.size
 refine Zom rfl rfl<|Zo (X.extr rfl rfl) rfl<|Zo (X.extr rfl rfl) rfl<|Zc (X.allocE Tryz.zeroValue109 rfl) rfl ?_
 rintro _ w2 ⟨rfl, hB2, hk2, hz2⟩
 refine Zc (X.storeNE Tryz.sizeOf109 hB2 rfl rfl rfl rfl (fun u hu => by simp at hu; rcases hu with rfl | rfl | rfl <;> rfl)) rfl ?_
 rintro _ w3 ⟨hB3, hx3, hz3⟩
 refine Zoai rfl rfl<|Ze<|Zs<|Zs<|Zr<|Zomi rfl rfl<|X.opP X.wN rfl rfl (X.neI rfl rfl) (fun h16 => ?_) (fun h16 => ?_)
 ·exact absurd rfl h16
 ·refine Ze<|Zf rfl<|Zk<|Zs<|X.regionD (fun _ => False) 17 Zl Zl (fun w4 hk4 hz4 => ?_)
  refine ZDc 0 rfl Zl (X.move rfl)<|ZDc 1 rfl Zl (X.nilCk rfl)<|ZDc 2 rfl Zl (X.fldB (j := 0) Zu100 rfl rfl Tryz.sizeOf24 rfl)<|ZD 3 rfl Zl (fun w' hk' => X.load1B Tryz.isAgg24 (hBq.keep ((((hk1.trans hk2).step hx3 zq25).trans hk4).trans hk')) rfl rfl) ?_
  refine ZDc 4 rfl Zl (X.move rfl)<|ZDc 5 rfl Zl (X.nilCk rfl)<|ZDc 6 rfl Zl (X.fldB (j := 1) Zu100 rfl rfl Zs9 rfl)<|ZD 7 rfl Zl (fun w' hk' => X.load1B Zi9 (hBq.keep ((((hk1.trans hk2).step hx3 zq25).trans hk4).trans hk')) rfl rfl) ?_
  refine ZDc 8 rfl Zl (X.fldB (j := 0) Zu109 rfl rfl Zs3 rfl)<|ZD 9 rfl Zl (fun w' hk' => X.load1B Zi3 (hB3.keep (hk4.trans hk')) rfl rfl)<|ZDc 10 rfl Zl (X.fldB (j := 1) Zu109 rfl rfl Zs3 rfl)<|ZD 11 rfl Zl (fun w' hk' => X.load1B Zi3 (hB3.keep (hk4.trans hk')) rfl rfl)<|X.dE (i := 12) Zl rfl (X.dwN rfl) (X.callE (readR_c (hD.keep (((hk1.trans hk2).step hx3 zq25).trans hk4)) hok nm _ _ ⟨by omega, by omega, by omega, by omega⟩) Tryz.call36 rfl rfl) (by rintro _ w5 ⟨vr, rfl, hMr, hk5⟩ _; exact hk5.mono (fun _ _ h => h.elim)) ?_
  rintro _ w5 ⟨vr, rfl, hMr, hk5⟩
  have hk5' := hk5.size
  refine ZDc 13 rfl Zl (X.move rfl)<|ZDc 14 rfl Zl (X.extr rfl rfl)<|ZDc 15 rfl Zl (X.extr rfl rfl)<|ZDc 16 rfl Zl (X.assign rfl)<|X.dStep (i := 17) Zl rfl (X.dwN rfl) (X.assign (v := .int .i64 _) rfl) (fun h => absurd h (by decide))<|Zdend Zl<|Zs<|Zs<|Zr<|Zomi rfl rfl<|X.opP X.wN rfl rfl (X.neI rfl rfl) (fun h35 => ?_) (fun h35 => ?_)
  ·
   refine Ze<|Zt rfl<|Zs<|Zr<|Zomi rfl rfl<|Zoa rfl rfl<|Zoai rfl rfl<|Ze<|X.ret2 (v2 := (.int .i64 _)) Zf13 Zr13 rfl rfl ?_
   rw [pageF_e hq h35]
   exact ⟨_, _, rfl, Sl.nil _ _ _ _ _, ((((hk1.trans hk2).step hx3 zq25).trans hk4).trans hk5)⟩
  ·refine Ze<|Zf rfl<|Zk<|Zs<|Zr<|Zom rfl rfl<|Zo (X.fldB (j := 2) Zu109 rfl rfl Zs90 rfl) rfl<|Zo (X.load1B Zi90 (hB3.keep (hk4.trans hk5)) rfl rfl) rfl ?_
   have q7 := hMr.slF KB_flat 0 (fun _ _ => Nat.zero_le _)
   obtain ⟨A7, c7, rfl, hc7, hs7⟩ := q7
   refine Zc (X.callE (page_e2 _ hs7 Zz Zz Zz (hts.keep ((((hk1.trans hk2).step hx3 zq25).trans hk4).trans hk5)) Zz (hTb.keep ((((hk1.trans hk2).step hx3 zq25).trans hk4).trans hk5))) Tryz.call42 rfl rfl) rfl ?_
   rintro _ w6 ⟨b1, bn, bc, b2, rfl, hPE', hPZ, hk6⟩
   have hk6' := hk6.size
   refine Zo (X.extr rfl rfl) rfl<|Zo (X.extr rfl rfl) rfl<|Zoa rfl rfl<|Zoai rfl rfl<|Ze<|X.ret2 (v2 := (.int .i64 _)) Zf13 Zr13 rfl rfl ?_
   by_cases hb2 : b2 = 0
   ·obtain ⟨p, Lp, mp, Sp, Gp, hp, hN⟩ := hPZ hb2
    obtain ⟨Az, cz, ez, hcz, hsz⟩ := nrow_kc hN
    injection ez with ez1 ez2 ez3
    subst ez1 ez2 ez3
    subst hb2
    rw [pageF_s hq (Classical.byContradiction h35) hp]
    exact ⟨_, _, rfl, hsz.wide Zz (Nat.le_refl _), (((((hk1.trans hk2).step hx3 zq25).trans hk4).trans hk5).trans hk6)⟩
   ·obtain ⟨hp, rfl, rfl, rfl, rfl⟩ := hPE' hb2
    rw [pageF_n hq (Classical.byContradiction h35) hp]
    exact ⟨_, _, rfl, Sl.nil _ _ _ _ _, (((((hk1.trans hk2).step hx3 zq25).trans hk4).trans hk5).trans hk6)⟩
theorem PageA_c {col : Nat → Nat} {s : DS} {lo hi r b k : Nat} {nm : ByteArray} {l : List LEAF} (w : World) (h : RunO lo hi w r b nm l k) (hhi : hi ≤ w.heap.size) (hD : DkR col w b s) (hok : s.Ok) (hTb : TabOk w) (hb : ∀ q ∈ l, q.1 + q.2.1 ≤ 1000000) (i : Int) : Ret Tryz.prog 13 #[ptrV r, .int .i64 i] w fun rv w' => ∃ A c, rv = .tuple #[.slice A (pageF s nm l i).1.length c, .int .i64 (pageF s nm l i).2] ∧ Sl KC w.heap.size w'.heap.size w' A (pageF s nm l i).1.length (pageF s nm l i).1 ∧ Keep w w' := by
  by_cases h0 : i < 0 ∨ (l.length : Int) ≤ i
  · refine (Page_oob w h i h0).mono ?_
    rintro v w' ⟨rfl, hk⟩
    rw [pageF_o h0]
    exact ⟨_, _, rfl, Sl.nil _ _ _ _ _, hk⟩
  · obtain ⟨j, rfl⟩ := Int.eq_ofNat_of_zero_le (show 0 ≤ i by omega)
    obtain ⟨q, hq⟩ : ∃ q, l[j]? = some q := ⟨_, List.getElem?_eq_getElem Zz⟩
    exact PageF_c w h hhi hD hok hTb j hq (hb q (List.mem_of_getElem? hq))
structure RdW (g lo hi r b k : Nat) (col : Nat → Nat) (s : DS) (nm : ByteArray) (lv : List LEAF) (w : World) : Prop where
  R : RunO lo hi w r b nm lv k
  D : DkR col w b s
  T : TabOk w
  ok : s.Ok
  hb : ∀ q ∈ lv, q.1 + q.2.1 ≤ 1000000
  h1 : hi ≤ g
  h2 : r < g
  h3 : ∀ q, col q ≠ 0 → q < g
  h4 : 0 < g
  gw : g ≤ w.heap.size
section
variable {g lo hi r b k : Nat} {col : Nat → Nat} {ds : DS} {nm : ByteArray} {lv : List LEAF} {w w' : World}
theorem RdW.ext (h : RdW g lo hi r b k col ds nm lv w) {T : Nat → Prop} (x : Ext T w w') (hT : ∀ q, T q → g ≤ q) : RdW g lo hi r b k col ds nm lv w' :=
  ⟨h.R.ext x (fun e => by have := hT _ e; have := h.h2; omega) (fun q _ h2 h3 => by have := hT _ h3; have := h.h1; omega), h.D.ext x (fun q hq h3 => by have := hT _ h3; have := h.h3 q hq; omega), h.T.ext x (fun e => by have := hT _ e; have := h.h4; omega), h.ok, h.hb, h.h1, h.h2, h.h3, h.h4, Nat.le_trans h.gw x.size⟩
theorem RdW.keep (h : RdW g lo hi r b k col ds nm lv w) (x : Keep w w') : RdW g lo hi r b k col ds nm lv w' := h.ext x fun _ h => h.elim
theorem RdW.page (h : RdW g lo hi r b k col ds nm lv w) (i : Int) : Ret Tryz.prog 13 #[ptrV r, .int .i64 i] w fun rv w' => ∃ A c, rv = .tuple #[.slice A (pageF ds nm lv i).1.length c, .int .i64 (pageF ds nm lv i).2] ∧ Sl KC w.heap.size w'.heap.size w' A (pageF ds nm lv i).1.length (pageF ds nm lv i).1 ∧ Keep w w' :=
  PageA_c w h.R (Nat.le_trans h.h1 h.gw) h.D h.ok h.T h.hb i
structure CaB (f : Int → List CD × Int) (nm : ByteArray) (s : Ca) (n : Nat) : Prop where
  h : 0 ≤ s.h ∧ s.h ≤ n
  m : 0 ≤ s.m ∧ s.m ≤ n
  g : 0 ≤ s.g ∧ s.g ≤ n
  len : s.L.length ≤ n
  room : 0 ≤ s.room
  all : ∀ q, q ∈ s.L → q.1.1 = nm → f q.1.2 = (q.2, 0)
variable {f : Int → List CD × Int} {s : Ca} {n : Nat}
theorem CaB.up {n' : Nat} (h : CaB f nm s n) (hn : n ≤ n') : CaB f nm s n' := by
  obtain ⟨a, b, c, d, e, i⟩ := h
  exact ⟨by omega, by omega, by omega, by omega, e, i⟩
theorem CaB.get (h : CaB f nm s n) (key : PKEY) : CaB f nm (s.get key) (n + 1) := by
  obtain ⟨a, b, c, d, e, i⟩ := h
  rw [Ca.get]
  cases hq : asc key s.L with
  | none => exact ⟨by simp only []; omega, by simp only []; omega, by simp only []; omega, by simp only []; omega, e, i⟩
  | some p =>
    have hm := asc_some hq
    have hl := List.length_filter_le (fun q : PKEY × List CD => decide (q.1 ≠ key)) s.L
    refine ⟨by simp only []; omega, by simp only []; omega, by simp only []; omega, by simp only [List.length_cons]; omega, e, fun q hq' hn => ?_⟩
    rcases List.mem_cons.1 hq' with rfl | hq'
    · exact i _ hm hn
    · exact i q (List.mem_filter.1 hq').1 hn
theorem CaB.put (h : CaB f nm s n) {j : Int} {p : List CD} (hp : f j = (p, 0)) : CaB f nm (s.put (nm, j) p) (n + 1) := by
  obtain ⟨a, b, c, d, e, i⟩ := h
  have hl := List.length_filter_le (fun q : PKEY × List CD => decide (q.1 ≠ (nm, j))) s.L
  have hall : ∀ q, q ∈ ((nm, j), p) :: s.L.filter (fun q => decide (q.1 ≠ (nm, j))) → q.1.1 = nm → f q.1.2 = (q.2, 0) := fun q hq hn => by
    rcases List.mem_cons.1 hq with rfl | hq
    · exact hp
    · exact i q ((List.mem_filter.1 hq).1) hn
  rw [Ca.put]
  split
  · exact ⟨by omega, by omega, by omega, by omega, e, i⟩
  · split
    · refine ⟨by simp only []; omega, by simp only []; omega, by simp only []; omega, ?_, e, fun q hq hn => hall q (List.dropLast_subset _ hq) hn⟩
      simp only [List.length_dropLast, List.length_cons]; omega
    · exact ⟨by simp only []; omega, by simp only []; omega, by simp only []; omega, by simp only [List.length_cons]; omega, e, hall⟩
theorem CaB.drop (h : CaB f nm s n) (nm' : ByteArray) : CaB f nm (s.drop nm') n := by
  obtain ⟨a, b, c, d, e, i⟩ := h
  have hl := List.length_filter_le (fun q : PKEY × List CD => decide (q.1.1 ≠ nm')) s.L
  exact ⟨a, b, c, by rw [Ca.drop]; simp only []; omega, e, fun q hq hn => i q ((List.mem_filter.1 hq).1) hn⟩
def Ca.pg (f : Int → List CD × Int) (nm : ByteArray) (s : Ca) (i : Int) : Ca := match asc (nm, i) s.L with
  | some _ => s.get (nm, i)
  | none => if (f i).2 = 0 then (s.get (nm, i)).put (nm, i) (f i).1 else s.get (nm, i)
theorem Ca.pg_s {i : Int} {p : List CD} (h : asc (nm, i) s.L = some p) : s.pg f nm i = s.get (nm, i) := by rw [Ca.pg, h]
theorem Ca.pg_p {i : Int} (h : asc (nm, i) s.L = none) (h2 : (f i).2 = 0) : s.pg f nm i = (s.get (nm, i)).put (nm, i) (f i).1 := by rw [Ca.pg, h]; exact if_pos h2
theorem Ca.pg_n {i : Int} (h : asc (nm, i) s.L = none) (h2 : ¬ (f i).2 = 0) : s.pg f nm i = s.get (nm, i) := by rw [Ca.pg, h]; exact if_neg h2
theorem CaB.pg (h : CaB f nm s n) (i : Int) : CaB f nm (s.pg f nm i) (n + 2) := by
  cases hq : asc (nm, i) s.L with
  | some p => rw [Ca.pg_s hq]; exact (h.get _).up Zz
  | none =>
    by_cases h2 : (f i).2 = 0
    · rw [Ca.pg_p hq h2]; exact (h.get _).put (by rw [← h2])
    · rw [Ca.pg_n hq h2]; exact (h.get _).up Zz
theorem CaB.hit (h : CaB f nm s n) {i : Int} {p : List CD} (hq : asc (nm, i) s.L = some p) : f i = (p, 0) := h.all _ (asc_some hq) rfl
end
theorem CPage_c {g lo hi r b k bc n : Nat} {col : Nat → Nat} {ds : DS} {nm : ByteArray} {lv : List LEAF} {T : Nat → Prop} {s : Ca} (w : World) (hC : CaIn T w bc s) (hR : RdW g lo hi r b k col ds nm lv w) (hTg : ∀ q, T q → g ≤ q) (hB : CaB (pageF ds nm lv) nm s n) (hn : n ≤ 1000) (i : Int) : Ret Tryz.prog 12 #[ptrV bc, ptrV r, .int .i64 i] w fun rv w' => ∃ A c, rv = .tuple #[.slice A (pageF ds nm lv i).1.length c, .int .i64 (pageF ds nm lv i).2] ∧ Sl KC w.heap.size w'.heap.size w' A (pageF ds nm lv i).1.length (pageF ds nm lv i).1 ∧ (∃ T', CaIn T' w' bc (s.pg (pageF ds nm lv) nm i) ∧ ∀ q, T' q → T q ∨ w.heap.size ≤ q) ∧ Ext T w w' := by
 obtain ⟨bm, A, na, c, mm, TR, TD, hBc, _⟩ := id hC
 have hfo : ∀ i, okPg (pageF ds nm lv i).1 := fun i => pageF_ok hR.hb
 have hgw := hR.gw
 refine X.enter Zf12 rfl Tryz.ntmps12 rfl<|Zs<|Zr<|Zoa rfl rfl<|Zoa rfl rfl<|Ze<|Zs<|Zs<|Zr<|Zom rfl rfl<|Zc (X.callE (is_c_cache _ (hBc.keep (Keep.refl _))) Zc38 rfl rfl) rfl ?_
 rintro _ w1 ⟨rfl, hk1⟩
 have hk1' := hk1.size
 refine Zo (X.not_ rfl) rfl<|Ze<|Zf rfl<|Zk<|Zs<|Zr<|Zom rfl rfl<|Zc (X.callE (Name_c _ (hR.keep hk1).R) Tryz.call40 rfl rfl) rfl ?_
 rintro _ w2 ⟨rfl, hk2⟩
 have hk2' := hk2.size
 refine Zomi rfl rfl<|Zo (X.buildB (vs := [(0, .string nm), (1, .int .i64 i)]) (cs := #[.string nm, .int .i64 i]) rfl Zl) rfl<|Zc (X.allocE Zv69 rfl) rfl ?_
 rintro _ w3 ⟨rfl, hB3, hk3, hz3⟩
 refine Zc (X.storeNE Zs69 hB3 rfl rfl rfl rfl (fun u hu => by simp at hu; rcases hu with rfl | rfl <;> rfl)) rfl ?_
 rintro _ w4 ⟨hB4, hx4, hz4⟩
 refine Ze<|Zs<|Zs<|Zr<|Zom rfl rfl<|Zo (X.loadNB Zi69 Zs69 hB4 rfl rfl rfl) rfl<|Zc (X.callE (Get_c (nm, i) _ ((((hC.keep hk1).keep hk2).keep hk3).ext hx4 (by intro q g1 g2; have g2 : q = _ := g2; have := hC.lt q g1; omega)) (by have := hB.len; omega) (by have := hB.h; omega) (by have := hB.m; omega)) Tryz.call29 rfl rfl) rfl ?_
 rintro _ w5 ⟨a, b', ha, hab, hb', ⟨vg, rfl, hTl⟩, hCg, hx5⟩
 obtain ⟨Ag, cg, rfl, hcg, hsg⟩ := hTl.sl
 have hx5' := hx5.size
 refine Zom rfl rfl<|Zo (X.extr rfl rfl) rfl<|Zo (X.extr rfl rfl) rfl<|Zoas rfl rfl<|Zoao rfl rfl<|Ze<|Zs<|Zr<|Zomo rfl rfl<|Ze<|X.condB rfl (fun hc31 => ?_) (fun hc31 => ?_)
 ·refine Zs<|Zr<|Zoms rfl rfl<|Zoas rfl rfl<|Zoa rfl rfl<|Ze<|X.ret2 (v2 := (.int .i64 _)) Zf12 Zr12 rfl rfl ?_
  have hsm : ∃ p, asc (nm, i) s.L = some p := Option.isSome_iff_exists.1 hc31
  obtain ⟨p, hp⟩ := hsm
  have hfi := hB.hit hp
  rw [hp] at hsg ⊢
  rw [Ca.pg_s hp, hfi]
  exact ⟨_, _, rfl, hsg.wide Zz (Nat.le_refl _), ⟨_, hCg, fun q hq => by first | (have hq : _ ∨ _ := hq; rcases hq with hq | hq; exact .inl hq; right; omega) | (have hq : (_ ∨ _) ∨ _ := hq; rcases hq with (hq | hq) | hq; exact .inl hq; right; omega; right; omega)⟩, (Ext.andThen (Ext.andThen (Ext.andThen (Ext.andThen (Ext.andThen (Ext.refl T _) hk1 zq14) hk2 zq14) hk3 zq14) hx4 zq14) hx5 zq14)⟩
 ·have hnone : asc (nm, i) s.L = none := Option.not_isSome_iff_eq_none.1 (by rw [hc31]; decide)
  refine Zk<|Zs<|Zr<|Zom rfl rfl<|Zomi rfl rfl<|Zc (X.callE (RdW.page (((((hR.keep hk1).keep hk2).keep hk3).ext hx4 (by intro q g1; first | exact hTg q g1 | (have g1 : q = _ := g1; have := hR.gw; omega) | (have g1 : _ ∨ _ := g1; rcases g1 with g1 | g1; exact hTg q g1; have := hR.gw; omega))).ext hx5 (by intro q g1; first | exact hTg q g1 | (have g1 : q = _ := g1; have := hR.gw; omega) | (have g1 : _ ∨ _ := g1; rcases g1 with g1 | g1; exact hTg q g1; have := hR.gw; omega))) i) Zc13 rfl rfl) rfl ?_
  rintro _ w6 ⟨Ap, cp, rfl, hsp, hk6⟩
  have hk6' := hk6.size
  refine Zom rfl rfl<|Zo (X.extr rfl rfl) rfl<|Zo (X.extr rfl rfl) rfl<|Zoas rfl rfl<|Zoai rfl rfl<|Ze<|Zs<|Zs<|Zr<|Zomi rfl rfl<|X.opP X.wN rfl rfl (X.eqI rfl rfl) (fun h40 => ?_) (fun h40 => ?_)
  ·
   refine Ze<|Zt rfl<|Zr<|Zom rfl rfl<|Zo (X.loadNB Zi69 Zs69 ((hB4.ext hx5 (by first | (intro q g1 g2 g3; have g3 : _ ∨ _ := g3; rcases g3 with g3 | g3; have := hC.lt _ g3; omega; omega) | (intro q g1 g2 g3; first | exact (g3 : False).elim | (have g3 : q = _ := g3; omega) | (have := hC.lt _ g3; omega)) | (intro hh; have hh : _ ∨ _ := hh; rcases hh with hh | hh; have := hC.lt _ hh; omega; omega) | (intro hh; first | exact (hh : False).elim | (have hh : _ = _ := hh; omega) | (have := hC.lt _ hh; omega)))).keep hk6) rfl rfl rfl) rfl ?_
   refine Zoms rfl rfl<|Zc (X.callE (Put_c (nm, i) _ (hCg.keep hk6) hsp Zz (hfo i) (by have := (hB.get (nm, i)).len; omega) (by have := (hB.get (nm, i)).g; omega) (hB.get (nm, i)).room) Zc26 rfl rfl) rfl ?_
   rintro _ w7 ⟨rfl, hCp, hx7⟩
   have hx7' := hx7.size
   refine Ze<|Zs<|Zr<|Zoms rfl rfl<|Zomi rfl rfl<|Zoas rfl rfl<|Zoai rfl rfl<|Ze<|X.ret2 (v2 := (.int .i64 _)) Zf12 Zr12 rfl rfl ?_
   rw [Ca.pg_p hnone h40]
   exact ⟨_, _, rfl, ((hsp.ext hx7 (by first | (intro q g1 g2 g3; have g3 : _ ∨ _ := g3; rcases g3 with g3 | g3; have := hC.lt _ g3; omega; omega) | (intro q g1 g2 g3; first | exact (g3 : False).elim | (have g3 : q = _ := g3; omega) | (have := hC.lt _ g3; omega)) | (intro hh; have hh : _ ∨ _ := hh; rcases hh with hh | hh; have := hC.lt _ hh; omega; omega) | (intro hh; first | exact (hh : False).elim | (have hh : _ = _ := hh; omega) | (have := hC.lt _ hh; omega))))).wide Zz Zz, ⟨_, hCp, fun q hq => by first | (have hq : _ ∨ _ := hq; rcases hq with hq | hq; exact .inl hq; right; omega) | (have hq : (_ ∨ _) ∨ _ := hq; rcases hq with (hq | hq) | hq; exact .inl hq; right; omega; right; omega)⟩, (Ext.andThen (Ext.andThen (Ext.andThen (Ext.andThen (Ext.andThen (Ext.andThen (Ext.andThen (Ext.refl T _) hk1 zq14) hk2 zq14) hk3 zq14) hx4 zq14) hx5 zq14) hk6 zq14) hx7 zq14)⟩
  ·
   refine Ze<|Zf rfl<|Zk<|Zs<|Zr<|Zoms rfl rfl<|Zomi rfl rfl<|Zoas rfl rfl<|Zoai rfl rfl<|Ze<|X.ret2 (v2 := (.int .i64 _)) Zf12 Zr12 rfl rfl ?_
   rw [Ca.pg_n hnone h40]
   exact ⟨_, _, rfl, (hsp).wide Zz Zz, ⟨_, (hCg.keep hk6), fun q hq => by first | (have hq : _ ∨ _ := hq; rcases hq with hq | hq; exact .inl hq; right; omega) | (have hq : (_ ∨ _) ∨ _ := hq; rcases hq with (hq | hq) | hq; exact .inl hq; right; omega; right; omega)⟩, (Ext.andThen (Ext.andThen (Ext.andThen (Ext.andThen (Ext.andThen (Ext.andThen (Ext.refl T _) hk1 zq14) hk2 zq14) hk3 zq14) hx4 zq14) hx5 zq14) hk6 zq14)⟩
theorem CPage_n {g lo hi r b k : Nat} {col : Nat → Nat} {ds : DS} {nm : ByteArray} {lv : List LEAF} {p : Option Addr} (w : World) (hN : Nob_cache w p) (hR : RdW g lo hi r b k col ds nm lv w) (i : Int) : Ret Tryz.prog 12 #[.pointer p, ptrV r, .int .i64 i] w fun rv w' => ∃ A c, rv = .tuple #[.slice A (pageF ds nm lv i).1.length c, .int .i64 (pageF ds nm lv i).2] ∧ Sl KC w.heap.size w'.heap.size w' A (pageF ds nm lv i).1.length (pageF ds nm lv i).1 ∧ Keep w w' := by
 refine X.enter Zf12 rfl Tryz.ntmps12 rfl<|Zs<|Zr<|Zoa rfl rfl<|Zoa rfl rfl<|Ze<|Zs<|Zs<|Zr<|Zom rfl rfl<|Zc (X.callE (is_n_cache p _ hN) Zc38 rfl rfl) rfl ?_
 rintro _ w1 ⟨rfl, hk1⟩
 have hk1' := hk1.size
 refine Zo (X.not_ rfl) rfl<|Ze<|Zt rfl<|Zs<|Zr<|Zom rfl rfl<|Zomi rfl rfl<|Zc (X.callE (RdW.page (hR.keep hk1) i) Zc13 rfl rfl) rfl ?_
 rintro _ w2 ⟨Ap, cp, rfl, hsp, hk2⟩
 have hk2' := hk2.size
 refine Zo (X.extr rfl rfl) rfl<|Zo (X.extr rfl rfl) rfl<|Zoas rfl rfl<|Zoai rfl rfl<|Ze<|X.ret2 (v2 := (.int .i64 _)) Zf12 Zr12 rfl rfl ?_
 exact ⟨_, _, rfl, hsp.wide Zz (Nat.le_refl _), (hk1.trans hk2)⟩
theorem CacheSame_w (w : World) (hTb : TabOk w) (room n : Nat) (hr0 : room ≤ 255) (hn0 : n ≤ 255) (A : Option Addr) (m c : Nat) (xs : List Int) (hs : Sl KI 0 w.heap.size w A m xs) : Ret Tryz.prog 3 #[.int .u8 (room : Int), .int .u8 (n : Int), .slice A m c] w fun r w' => r = .bool true ∧ Keep w w' := by
 have htl := hTb.lt
 refine X.enter Zf3 rfl Tryz.ntmps3 rfl<|Zs<|Zr<|Zoa rfl rfl<|Ze<|Zs<|Zs<|Zr<|Zc (X.callE (awake_c _) Tryz.call5 rfl rfl) rfl ?_
 rintro _ w1 ⟨rfl, hk1⟩
 have hk1' := hk1.size
 refine Zo (X.not_ rfl) rfl<|Ze<|Zf rfl<|Zk<|Zs<|Zr<|Zc (X.callE (New_ok 400 _ (by decide)) Tryz.call6 rfl rfl) rfl ?_
 rintro _ w2 ⟨bd, bf, bdd, bx, bl, c0, rfl, hDk, hDc, hk2⟩
 have hD0 := hDk.r
 have hzn := hk2.size
 refine Zom rfl rfl<|Zo (X.extr rfl rfl) rfl<|Zo (X.extr rfl rfl) rfl<|Zoa rfl rfl<|Zoai rfl rfl<|Ze<|Zs<|Zs<|Zr<|Zom rfl rfl<|Zomb rfl rfl<|Zo (X.cvI Zu5 Zu3 rfl (X.w_i64 Zz)) rfl<|Zo (X.rem (c := ((n % 60 : Nat) : Int)) rfl rfl (by decide) rfl) rfl<|Zc (X.callE (entries_c (n % 60) Zz _) Tryz.call8 rfl rfl) rfl ?_
 rintro _ w3 ⟨AE, cE, rfl, hcE, hsE, hk3⟩
 have hk3' := hk3.size
 refine Zc (X.callE (rWrite_good nmA _ hsE (Nat.le_refl _) (hD0.keep hk3) (Inv_new (by decide)) (by decide) (by decide) hcE (goodE Zz) (hTb.keep ((hk1.trans hk2).trans hk3)) (wE Zz)) Tryz.call7 rfl rfl) rfl ?_
 rintro _ w4 ⟨rfl, c1, hD1, hS1⟩
 have hx4 := hS1.2
 have hx4' := hx4.size
 refine Zo (X.neI rfl rfl) rfl<|Ze<|Zf rfl<|Zk<|Zs<|Zr<|Zom rfl rfl<|Zc (X.callE (rOpen_run hD1 ((Inv_new (by decide)).runW nmA (entsE (n % 60))).ok (onD_of (wE Zz)) (goodE Zz) ((hTb.keep ((hk1.trans hk2).trans hk3)).ext hx4 zq5)) Tryz.call9 rfl rfl) rfl ?_
 rintro _ w5 ⟨⟨r, rfl, hr1, hr2, hRO⟩, hk5⟩
 have hk5' := hk5.size
 refine Zom rfl rfl<|Zo (X.extr rfl rfl) rfl<|Zo (X.extr rfl rfl) rfl<|Zoa rfl rfl<|Zoai rfl rfl<|Ze<|Zs<|Zr<|Zomb rfl rfl<|Zo (X.cvI Zu5 Zu3 rfl (X.w_i64 Zz)) rfl<|Zo (X.rem (c := ((room % 6 : Nat) : Int)) rfl rfl (by decide) rfl) rfl<|Zc (X.callE (New_e ((room % 6 : Nat) : Int) Zz _) Tryz.call10 rfl rfl) rfl ?_
 rintro _ w6 ⟨bc, rfl, hC0, hk6⟩
 have hk6' := hk6.size
 refine Zom rfl rfl<|Zo (X.extr rfl rfl) rfl<|Zo (X.extr rfl rfl) rfl<|Zoa rfl rfl<|Zoai rfl rfl<|Ze<|Zs<|Zs<|Zr<|Zomi rfl rfl<|Zo (X.neI rfl rfl) rfl<|Zomf rfl rfl<|Zg (Zdmi rfl) rfl rfl rfl rfl<|Zg (X.neI rfl rfl) rfl rfl rfl rfl<|Zo (ZdFf rfl rfl) rfl<|Zomf rfl rfl<|Zg (X.move rfl) rfl rfl rfl rfl<|Zg (X.eqPtrN (A := some _) Zu34 rfl rfl) rfl rfl rfl rfl<|Zo (ZdFf rfl rfl) rfl<|Ze<|Zf rfl<|Zk<|Zs<|Zr<|Zoa rfl rfl<|Ze<|Zs<|Zs<|Zr<|Zoa rfl rfl<|Ze<|Zb ?_
 have hKL := (((((hk1.trans hk2).trans hk3).step hx4 (by intro q g1; first | exact (g1 : False).elim | (have := hDc q g1; omega) | (have := hTg q g1; omega) | (have g1 : q = _ := g1; omega) | (have g1 : _ ≤ q := g1; omega))).trans hk5).trans hk6)
 have hsL := (((hs.keep ((hk1.trans hk2).trans hk3)).ext hx4 zq5).keep (hk5.trans hk6))
 have hbE : ∀ q ∈ (lvs 0 (pgs (entsE (n % 60)))), q.1 + q.2.1 ≤ 1000000 := fun q hq => by have h9 := (idxP_sum (idxP_back (goodE (n := n % 60) Zz).ok (goodE (n := n % 60) Zz).r (goodE (n := n % 60) Zz).n)).1 q hq; have := szE (n := n % 60) Zz; omega
 have hD1l := hD1.lt
 have hwr := hx4'
 have hRL : RdW (w5.heap.size) _ _ r bd _ c1 ((DS.mk0 400 [] [] []).runW nmA (entsE (n % 60))).2 nmA (lvs 0 (pgs (entsE (n % 60)))) w6 := ⟨(hRO.keep hk6), ((hD1.keep hk5).keep hk6), (((hTb.keep ((hk1.trans hk2).trans hk3)).ext hx4 zq5).keep (hk5.trans hk6)), ((Inv_new (by decide)).runW nmA (entsE (n % 60))).ok, hbE, by omega, by omega, fun q hq => by have := hD1l q hq; omega, by omega, by omega⟩
 obtain ⟨gN, hgN⟩ : ∃ gN, gN = w5.heap.size := ⟨_, rfl⟩
 rw [← hgN] at hRL
 have hwN : w.heap.size ≤ gN := by rw [hgN]; omega
 have hCL := hC0
 rw [← hgN] at hCL
 refine X.loopL (σ := Nat) (fun s => [(2, .slice A m c), (9, ptrV r), (11, ptrV bc), (13, .pointer none), (14, .int .i64 (s : Int))]) (fun s w' => s ≤ 60 ∧ Ext (fun q => gN ≤ q) w6 w' ∧ ∃ T sc, CaIn T w' bc sc ∧ CaB (pageF ((DS.mk0 400 [] [] []).runW nmA (entsE (n % 60))).2 nmA (lvs 0 (pgs (entsE (n % 60))))) nmA sc (2 * s) ∧ ∀ q, T q → gN ≤ q) (fun s => 60 - s) 0 ⟨rfl, rfl, rfl, rfl, rfl, trivial⟩ ⟨by omega, Ext.refl _ _, _, _, hCL, ⟨⟨by simp, by simp⟩, ⟨by simp, by simp⟩, ⟨by simp, by simp⟩, by simp, by simp only []; omega, fun q hq => by simp at hq⟩, fun q hq => hq.1⟩ ?_
 rintro i b wl ⟨hi0, hxL, T, sc, hC, hB, hTg⟩ hback
 have hxL0 := hxL.size
 have hRl := hRL.ext hxL (fun q h => h)
 have hKl := hKL.step hxL (fun q g1 => by have g1 : _ ≤ q := g1; omega)
 have hsl := hsL.ext hxL (fun q g1 g2 g3 => by have g3 : _ ≤ q := g3; omega)
 refine Zs<|Zs<|Zr<|Zomi rfl rfl<|Zoms rfl rfl<|Zo (X.lenSl Zu22 rfl) rfl<|X.opP X.wN rfl rfl (X.lss rfl rfl) (fun h59 => ?_) (fun h59 => ?_)
 ·refine Zomt rfl rfl<|Zg (Zdmi rfl) rfl rfl rfl rfl<|X.opP (X.wG rfl rfl rfl) rfl rfl (X.lss rfl rfl) (fun h62 => ?_) (fun h62 => ?_)
  ·have hm0 := hs.len
   obtain ⟨x, hx⟩ : ∃ x, xs[i]? = some x := ⟨_, List.getElem?_eq_getElem Zz⟩
   refine Zo (ZdTt rfl rfl) rfl<|Ze<|Zt rfl<|Zk<|Zs<|Zb<|Zs<|Zs<|Zr<|Zoms rfl rfl<|Zomi rfl rfl<|Zo (X.idxS hsl Zu22 Zs3 rfl rfl ⟨by omega, by omega⟩) rfl<|Zo (X.loadS Zi3 hsl hx rfl (fun _ h => by rw [h.1]; rfl)) rfl ?_
   refine X.opP X.wN rfl rfl (X.eqI rfl rfl) (fun h70 => ?_) (fun h70 => ?_)
   ·refine Ze<|Zt rfl<|Zr<|Zom rfl rfl<|Zc (X.callE (Drop_c nmA _ hC (by have := hB.len; omega)) Tryz.call11 rfl rfl) rfl ?_
    rintro _ w7 ⟨rfl, hCd, hx7⟩
    have hx7' := hx7.size
    refine Ze<|Zs<|Zr<|Zom rfl rfl<|Zom rfl rfl<|Zoms rfl rfl<|Zomi rfl rfl<|Zo (X.idxS (hsl.ext hx7 zq5) Zu22 Zs3 rfl rfl ⟨by omega, by omega⟩) rfl ?_
    refine Zo (X.loadS Zi3 (hsl.ext hx7 zq5) hx rfl (fun _ h => by rw [h.1]; rfl)) rfl ?_
    refine Zc (X.callE (CPage_c _ hCd (hRl.ext hx7 hTg) hTg (hB.drop nmA) Zz x) Zc12 rfl rfl) rfl ?_
    rintro _ w8 ⟨A1, c1', rfl, hs1, ⟨T1, hC1, hT1⟩, hx8⟩
    have hx8' := hx8.size
    refine Zom rfl rfl<|Zo (X.extr rfl rfl) rfl<|Zo (X.extr rfl rfl) rfl<|Zoas rfl rfl<|Zoai rfl rfl<|Ze<|Zs<|Zr<|Zom rfl rfl<|Zoms rfl rfl<|Zomi rfl rfl<|Zo (X.idxS ((hsl.ext hx7 zq5).ext hx8 zq5) Zu22 Zs3 rfl rfl ⟨by omega, by omega⟩) rfl ?_
    refine Zo (X.loadS Zi3 ((hsl.ext hx7 zq5).ext hx8 zq5) hx rfl (fun _ h => by rw [h.1]; rfl)) rfl ?_
    refine Zc (X.callE (RdW.page ((hRl.ext hx7 hTg).ext hx8 hTg) x) Zc13 rfl rfl) rfl ?_
    rintro _ w9 ⟨A2, c2', rfl, hs2, hk9⟩
    have hk9' := hk9.size
    refine Zom rfl rfl<|Zo (X.extr rfl rfl) rfl<|Zo (X.extr rfl rfl) rfl<|Zoas rfl rfl<|Zoai rfl rfl<|Ze<|Zs<|Zr<|Zom rfl rfl<|Zom rfl rfl<|Zoms rfl rfl<|Zomi rfl rfl<|Zo (X.idxS (((hsl.ext hx7 zq5).ext hx8 zq5).keep hk9) Zu22 Zs3 rfl rfl ⟨by omega, by omega⟩) rfl ?_
    refine Zo (X.loadS Zi3 (((hsl.ext hx7 zq5).ext hx8 zq5).keep hk9) hx rfl (fun _ h => by rw [h.1]; rfl)) rfl ?_
    refine Zc (X.callE (CPage_n _ (.inl rfl) (((hRl.ext hx7 hTg).ext hx8 hTg).keep hk9) x) Zc12 rfl rfl) rfl ?_
    rintro _ w10 ⟨A3, c3', rfl, hs3, hk10⟩
    have hk10' := hk10.size
    refine Zom rfl rfl<|Zo (X.extr rfl rfl) rfl<|Zo (X.extr rfl rfl) rfl<|Zoas rfl rfl<|Zoai rfl rfl<|Ze<|Zs<|Zr<|Zoms rfl rfl<|Zoms rfl rfl<|Zc (X.callE (RSame_c _ (hs1.keep (hk9.trans hk10)) (hs2.keep hk10)) Zc14 rfl rfl) rfl ?_
    rintro _ w11 ⟨rfl, hk11⟩
    have hk11' := hk11.size
    refine Zo (X.not_ rfl) rfl<|Zomo rfl rfl<|X.forkO 106 rfl (fun h106 => ?_) (fun h106 => ?_)
    ·exact absurd h106 (by simp)
    ·refine Zg (Zdmi rfl) rfl rfl rfl rfl<|Zg (Zdmi rfl) rfl rfl rfl rfl<|X.opP (X.wG rfl rfl rfl) rfl rfl (X.neI rfl rfl) (fun h109 => ?_) (fun h109 => ?_)
     ·exact absurd rfl h109
     ·refine Zo (ZdFf rfl rfl) rfl<|Zomf rfl rfl<|Zg (Zdms rfl) rfl rfl rfl rfl<|Zg (Zdms rfl) rfl rfl rfl rfl<|X.opE (X.wG rfl rfl rfl) rfl (X.callE (RSame_c _ (hs3.keep hk11) (hs2.keep (hk10.trans hk11))) Zc14 rfl rfl) ?_
      rintro _ w12 ⟨rfl, hk12⟩
      have hk12' := hk12.size
      refine Zg (X.not_ rfl) rfl rfl rfl rfl<|Zo (ZdFo rfl rfl) rfl<|Zomo rfl rfl<|X.forkO 117 rfl (fun h117 => ?_) (fun h117 => ?_)
      ·exact absurd h117 (by simp)
      ·refine Zg (Zdmi rfl) rfl rfl rfl rfl<|Zg (Zdmi rfl) rfl rfl rfl rfl<|X.opP (X.wG rfl rfl rfl) rfl rfl (X.neI rfl rfl) (fun h120 => ?_) (fun h120 => ?_)
       ·exact absurd rfl h120
       ·refine Zo (ZdFf rfl rfl) rfl<|Ze<|Zf rfl<|Zk<|Zi<|Zr<|Zomi rfl rfl<|Zo (X.add rfl rfl (X.w_i64 Zz)) rfl<|Zoai rfl rfl<|Ze ?_
        refine hback (i + 1) _ _ ⟨rfl, rfl, rfl, rfl, rfl, trivial⟩ ⟨by omega, (Ext.andThen (Ext.andThen (Ext.andThen (Ext.andThen (Ext.andThen (Ext.andThen hxL hx7 zq32) hx8 zq32) hk9 zq32) hk10 zq32) hk11 zq32) hk12 zq32), _, _, ((((hC1.keep hk9).keep hk10).keep hk11).keep hk12), ((hB.drop nmA).pg x), fun q hq => (hT1 q hq).elim (hTg q) (fun h => by have := hRl.gw; omega)⟩ Zz
   ·refine Ze<|Zf rfl<|Zk<|Zs<|Zr<|Zom rfl rfl<|Zom rfl rfl<|Zoms rfl rfl<|Zomi rfl rfl<|Zo (X.idxS hsl Zu22 Zs3 rfl rfl ⟨by omega, by omega⟩) rfl<|Zo (X.loadS Zi3 hsl hx rfl (fun _ h => by rw [h.1]; rfl)) rfl ?_
    refine Zc (X.callE (CPage_c _ hC hRl hTg hB Zz x) Zc12 rfl rfl) rfl ?_
    rintro _ w13 ⟨A1, c1', rfl, hs1, ⟨T1, hC1, hT1⟩, hx13⟩
    have hx13' := hx13.size
    refine Zom rfl rfl<|Zo (X.extr rfl rfl) rfl<|Zo (X.extr rfl rfl) rfl<|Zoas rfl rfl<|Zoai rfl rfl<|Ze<|Zs<|Zr<|Zom rfl rfl<|Zoms rfl rfl<|Zomi rfl rfl<|Zo (X.idxS (hsl.ext hx13 zq5) Zu22 Zs3 rfl rfl ⟨by omega, by omega⟩) rfl ?_
    refine Zo (X.loadS Zi3 (hsl.ext hx13 zq5) hx rfl (fun _ h => by rw [h.1]; rfl)) rfl ?_
    refine Zc (X.callE (RdW.page (hRl.ext hx13 hTg) x) Zc13 rfl rfl) rfl ?_
    rintro _ w14 ⟨A2, c2', rfl, hs2, hk14⟩
    have hk14' := hk14.size
    refine Zom rfl rfl<|Zo (X.extr rfl rfl) rfl<|Zo (X.extr rfl rfl) rfl<|Zoas rfl rfl<|Zoai rfl rfl<|Ze<|Zs<|Zr<|Zom rfl rfl<|Zom rfl rfl<|Zoms rfl rfl<|Zomi rfl rfl<|Zo (X.idxS ((hsl.ext hx13 zq5).keep hk14) Zu22 Zs3 rfl rfl ⟨by omega, by omega⟩) rfl ?_
    refine Zo (X.loadS Zi3 ((hsl.ext hx13 zq5).keep hk14) hx rfl (fun _ h => by rw [h.1]; rfl)) rfl ?_
    refine Zc (X.callE (CPage_n _ (.inl rfl) ((hRl.ext hx13 hTg).keep hk14) x) Zc12 rfl rfl) rfl ?_
    rintro _ w15 ⟨A3, c3', rfl, hs3, hk15⟩
    have hk15' := hk15.size
    refine Zom rfl rfl<|Zo (X.extr rfl rfl) rfl<|Zo (X.extr rfl rfl) rfl<|Zoas rfl rfl<|Zoai rfl rfl<|Ze<|Zs<|Zr<|Zoms rfl rfl<|Zoms rfl rfl<|Zc (X.callE (RSame_c _ (hs1.keep (hk14.trans hk15)) (hs2.keep hk15)) Zc14 rfl rfl) rfl ?_
    rintro _ w16 ⟨rfl, hk16⟩
    have hk16' := hk16.size
    refine Zo (X.not_ rfl) rfl<|Zomo rfl rfl<|X.forkO 106 rfl (fun h106 => ?_) (fun h106 => ?_)
    ·exact absurd h106 (by simp)
    ·refine Zg (Zdmi rfl) rfl rfl rfl rfl<|Zg (Zdmi rfl) rfl rfl rfl rfl<|X.opP (X.wG rfl rfl rfl) rfl rfl (X.neI rfl rfl) (fun h109 => ?_) (fun h109 => ?_)
     ·exact absurd rfl h109
     ·refine Zo (ZdFf rfl rfl) rfl<|Zomf rfl rfl<|Zg (Zdms rfl) rfl rfl rfl rfl<|Zg (Zdms rfl) rfl rfl rfl rfl<|X.opE (X.wG rfl rfl rfl) rfl (X.callE (RSame_c _ (hs3.keep hk16) (hs2.keep (hk15.trans hk16))) Zc14 rfl rfl) ?_
      rintro _ w17 ⟨rfl, hk17⟩
      have hk17' := hk17.size
      refine Zg (X.not_ rfl) rfl rfl rfl rfl<|Zo (ZdFo rfl rfl) rfl<|Zomo rfl rfl<|X.forkO 117 rfl (fun h117 => ?_) (fun h117 => ?_)
      ·exact absurd h117 (by simp)
      ·refine Zg (Zdmi rfl) rfl rfl rfl rfl<|Zg (Zdmi rfl) rfl rfl rfl rfl<|X.opP (X.wG rfl rfl rfl) rfl rfl (X.neI rfl rfl) (fun h120 => ?_) (fun h120 => ?_)
       ·exact absurd rfl h120
       ·refine Zo (ZdFf rfl rfl) rfl<|Ze<|Zf rfl<|Zk<|Zi<|Zr<|Zomi rfl rfl<|Zo (X.add rfl rfl (X.w_i64 Zz)) rfl<|Zoai rfl rfl<|Ze ?_
        refine hback (i + 1) _ _ ⟨rfl, rfl, rfl, rfl, rfl, trivial⟩ ⟨by omega, (Ext.andThen (Ext.andThen (Ext.andThen (Ext.andThen (Ext.andThen hxL hx13 zq32) hk14 zq32) hk15 zq32) hk16 zq32) hk17 zq32), _, _, ((((hC1.keep hk14).keep hk15).keep hk16).keep hk17), (hB.pg x), fun q hq => (hT1 q hq).elim (hTg q) (fun h => by have := hRl.gw; omega)⟩ Zz
  ·refine Zo (ZdTf rfl rfl) rfl<|Ze<|Zf rfl<|Zx rfl<|Zs<|Zr<|Zoa rfl rfl<|Ze<|X.ret1 (v := (.bool _)) Zf3 Tryz.results3 rfl ?_
   exact ⟨rfl, hKl⟩
 ·refine Zomf rfl rfl<|Zp rfl rfl rfl<|Zp rfl rfl rfl<|Zo (ZdFf rfl rfl) rfl<|Ze<|Zf rfl<|Zx rfl<|Zs<|Zr<|Zoa rfl rfl<|Ze<|X.ret1 (v := (.bool _)) Zf3 Tryz.results3 rfl ?_
  exact ⟨rfl, hKl⟩
theorem CacheSame_c (w : World) (hTb : TabOk w) (y0 : UInt8) (_ : True) (y1 : UInt8) (_ : True) (A : Option Addr) (m c : Nat) (xs : List Int) (_ : m ≤ c) (hs : Sl KI 0 w.heap.size w A m xs) : Ret Tryz.prog 3 #[.int .u8 (y0.toNat : Int), .int .u8 (y1.toNat : Int), .slice A m c] w fun r w' => r = .bool true ∧ Keep w w' :=
  CacheSame_w w hTb y0.toNat y1.toNat (by have := y0.toNat_lt; omega) (by have := y1.toNat_lt; omega) A m c xs hs
end Go.Proofs.YtjjhddjllpihaaaGreatDoor
