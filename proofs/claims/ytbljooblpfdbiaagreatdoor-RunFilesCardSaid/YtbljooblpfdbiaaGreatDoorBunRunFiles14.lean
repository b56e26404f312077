/- Texts that the proof of RunFiles stands on, part 14. -/
import Derived.Test.YtbljooblpfdbiaaGreatDoorProg
import Derived.Test.YtbljooblpfdbiaaGreatDoorBunRunFiles13
set_option maxHeartbeats 4000000
set_option maxRecDepth 100000
open Go.Proofs.Tryz renaming call90 → Zc90, call91 → Zc91, call92 → Zc92, call93 → Zc93, call94 → Zc94, call97 → Zc97, func41 → Zf41, func43 → Zf43, func97 → Zf97, isAgg22 → Zi22, isAgg27 → Zi27, isAgg3 → Zi3, isAgg5 → Zi5, isAgg54 → Zi54, results41 → Zr41, results43 → Zr43, sizeOf106 → Zs106, sizeOf22 → Zs22, sizeOf40 → Zs40, sizeOf5 → Zs5, sizeOf54 → Zs54, underlying119 → Zu119, underlying166 → Zu166, underlying22 → Zu22, underlying3 → Zu3, underlying43 → Zu43, underlying5 → Zu5, underlying54 → Zu54, zeroValue40 → Zv40
set_option linter.unusedSimpArgs false
set_option linter.unusedVariables false
namespace Go.Proofs.YtbljooblpfdbiaaGreatDoor
open Go Go.Proofs.YtbljooblpfdbiaaGreatDoor.X
theorem open_sl {e : Nat} {w w' : World} {v : Value} {l : List UInt8} (h : Fresh KB e w w' v l) : ∃ A c, v = .slice A l.length c ∧ l.length ≤ c ∧ Sl KB w.heap.size w'.heap.size w' A l.length l ∧ Keep w w' := by
  obtain ⟨hM, hk⟩ := h
  obtain ⟨A, c, e, hc, hs⟩ := hM.slF KB_flat w.heap.size (fun _ h => h)
  exact ⟨A, c, e, hc, hs, hk⟩
theorem sl_cast {α : Type} {K : Kd α} {lo hi : Nat} {w : World} {A : Option Addr} {n : Nat} {l l' : List α} (h : Sl K lo hi w A n l) (e : l = l') : Sl K lo hi w A n l' := e ▸ h
theorem mineKV_sl {w w' : World} {v : Value} {l : List VAL} (hM : Mine KV 90 (fun k => w.heap.size ≤ k) 0 0 w' v l) : ∃ A c, v = .slice A l.length c ∧ l.length ≤ c ∧ Sl KV w.heap.size w'.heap.size w' A l.length l := hM.slF KV_flat w.heap.size (fun _ h => h)
theorem pText_fst {most : Int} {xs : List UInt8} {b : List UInt8 × List UInt8} (h : pText most xs = some b) : b.1.length + b.2.length ≤ xs.length := by
  unfold pText at h
  cases hp : pNum 0 0 xs with
  | none => rw [hp] at h; cases h
  | some z =>
    obtain ⟨a, ys⟩ := z
    obtain ⟨pre, h1, e⟩ := pNum_suf hp
    rw [hp] at h
    simp only at h
    split at h
    · cases h
    · cases h
      rw [e, List.length_append]; simp only [List.length_take, List.length_drop]; omega
theorem last_at {l : List LEAF} {q : LEAF} (h : l[l.length - 1]? = some q) : lastT l = some q.2.2 := by rw [lastT, List.getLast?_eq_getElem?, h]; rfl
theorem last_nil {l : List LEAF} (h : ¬ 0 < l.length) : lastT l = none := by
  have : l = [] := List.eq_nil_of_length_eq_zero Zz
  rw [this]; rfl
theorem idx_a {xs : List UInt8} (h : xs.length < 8) : idxP xs = none := by rw [idxP, if_pos h]
theorem idx_b {xs : List UInt8} (h : ¬ xs.length < 8) (h2 : (openC (xs.drop (xs.length - 8))).1 ≠ 0) : idxP xs = none := by rw [idxP, if_neg h]; simp only []; exact if_pos h2
theorem idx_c {xs : List UInt8} (h : ¬ xs.length < 8) (h2 : (openC (xs.drop (xs.length - 8))).1 = 0) : idxP xs = idx2 xs (openC (xs.drop (xs.length - 8))).2 := by rw [idxP, if_neg h]; simp only []; exact if_neg (by simp [h2])
theorem idx_d {xs t : List UInt8} (h : xs.length - 8 < le4 t) : idx2 xs t = none := by rw [idx2, if_pos h]
theorem idx_e {xs t : List UInt8} (h : ¬ xs.length - 8 < le4 t) (h2 : (openC ((xs.take (xs.length - 8 - le4 t + le4 t)).drop (xs.length - 8 - le4 t))).1 ≠ 0) : idx2 xs t = none := by
  rw [List.drop_take, Nat.add_sub_cancel_left] at h2
  rw [idx2, if_neg h]; simp only []; exact if_pos h2
theorem idx_f {xs t : List UInt8} (h : ¬ xs.length - 8 < le4 t) (h2 : (openC ((xs.take (xs.length - 8 - le4 t + le4 t)).drop (xs.length - 8 - le4 t))).1 = 0) : idx2 xs t = idx3 (xs.length - 8 - le4 t) (openC ((xs.take (xs.length - 8 - le4 t + le4 t)).drop (xs.length - 8 - le4 t))).2 := by
  rw [List.drop_take, Nat.add_sub_cancel_left] at h2 ⊢
  rw [idx2, if_neg h]; simp only []; exact if_neg (by simp [h2])
theorem idx_g {all : Nat} {x : List UInt8} (h : pNum 0 0 x = none) : idx3 all x = none := by rw [idx3, h]
theorem idx_h {all : Nat} {x : List UInt8} {z : Nat × List UInt8} (h : pNum 0 0 x = some z) (h2 : pNum 0 0 z.2 = none) : idx3 all x = none := by obtain ⟨s, x1⟩ := z; rw [idx3, h]; simp only; rw [h2]
theorem idx_i {all : Nat} {x : List UInt8} {z y : Nat × List UInt8} (h : pNum 0 0 x = some z) (h2 : pNum 0 0 z.2 = some y) (h3 : 9223372036854775807 < y.1) : idx3 all x = none := by obtain ⟨s, x1⟩ := z; obtain ⟨s2, x2⟩ := y; rw [idx3, h]; simp only; rw [h2]; simp only; exact if_pos h3
theorem idx_j {all : Nat} {x : List UInt8} {z y : Nat × List UInt8} (h : pNum 0 0 x = some z) (h2 : pNum 0 0 z.2 = some y) (h3 : ¬ 9223372036854775807 < y.1) : idx3 all x = (parts all z.1 0 none y.2).map fun l => (l, y.1) := by obtain ⟨s, x1⟩ := z; obtain ⟨s2, x2⟩ := y; rw [idx3, h]; simp only; rw [h2]; simp only; exact if_neg h3
theorem map_nil {o : Option (List LEAF)} {k : Nat} : (o.map fun l => (l, k)) = ((o.map (([] : List LEAF) ++ ·)).map fun l => (l, k)) := by cases o <;> rfl
theorem map_snoc {o : Option (List LEAF)} {l : List LEAF} {q : LEAF} : ((o.map fun l' => q :: l').map (l ++ ·)) = o.map ((l ++ [q]) ++ ·) := by cases o <;> simp
theorem index_c {lo hi : Nat} {A : Option Addr} {n c : Nat} {xs : List UInt8} (w : World) (hs : Sl KB lo hi w A n xs) (hhi : hi ≤ w.heap.size) (hnc : n ≤ c) (hn : n ≤ 1000000) (hTb : TabOk w) : Ret Tryz.prog 41 #[.slice A n c] w fun r w' => (match idxP xs with
    | some (l, k) => ∃ v L m S G, r = .tuple #[v, .int .i64 (k : Int), .int .i64 0] ∧ NRow NdLf 106 w.heap.size m S G w' v L l
    | none => r = .tuple #[.slice none 0 0, .int .i64 0, .int .i64 71]) ∧ Keep w w' := by
 have hsl := hs.len
 have htl := hTb.lt
 refine X.enter Zf41 rfl Tryz.ntmps41 rfl<|Zs<|Zr<|Zc (X.allocE Tryz.zeroValue54 rfl) rfl ?_
 rintro _ w1 ⟨rfl, hB1, hk1, hz1⟩
 refine Zc (X.allocE Tryz.zeroValue3 rfl) rfl ?_
 rintro _ w2 ⟨rfl, hB2, hk2, hz2⟩
 refine Zc (X.allocE Tryz.zeroValue27 rfl) rfl ?_
 rintro _ w3 ⟨rfl, hB3, hk3, hz3⟩
 refine Ze<|Zs<|Zr<|Zo (X.mkFunc rfl) rfl<|X.opDefer X.wN rfl rfl<|Ze<|Zs<|Zr<|X.opDefer X.wN rfl rfl<|Ze<|Zs<|Zs<|Zr<|Zoms rfl rfl<|Zo (X.lenSl Zu43 rfl) rfl<|X.opP X.wN rfl rfl (X.lss rfl rfl) (fun h22 => ?_) (fun h22 => ?_)
 ·
  refine Ze<|Zt rfl<|Zr<|Zo (X.buildB (vs := []) (cs := #[]) rfl Zl) rfl<|Zo (X.mkIface Zu166 rfl rfl) rfl<|X.opPanic X.wN rfl ?_
  have hN : idxP xs = none := idx_a Zz
  refine X.unw_defer Zc91 (fun h => by cases h) (rcaught_1 _ _ _ hB3) ?_
  rintro m wz ⟨rfl, hBz, hxz⟩
  have hxz' := hxz.size
  show X.Unw _ _ _ FrameMode.returning _ _ _ _
  refine X.unw_defer Zc90 (fun h => by cases h) (X.DCall.of_ret (zeroI1_c _ _ _ _ _ _ hBz ((hB1.keep (hk2.trans hk3)).ext hxz zq35) ((hB2.keep hk3).ext hxz zq35) Zz Zz Zz)) ?_
  rintro m wq ⟨rfl, vq, hq1, hq2, hq3, hq4⟩
  show X.Unw _ _ _ FrameMode.returning _ _ _ _
  refine X.unwR3 Zf41 Zr41 (X.ResOk.cell rfl (X.lv1 Zi54 hq2 rfl)) (X.ResOk.cell rfl (X.lv1 Zi3 hq3 rfl)) (X.ResOk.cell rfl (X.lv1 Zi27 hq1 rfl)) ?_
  rw [hN]
  exact ⟨rfl, ((((hk1.trans hk2).trans hk3)).step hxz zq25).step hq4 zq25⟩
 ·refine Ze<|Zf rfl<|Zk<|Zs<|Zr<|Zoms rfl rfl<|Zo (X.lenSl Zu43 rfl) rfl<|Zo (X.sub (c := ((n - 8 : Nat) : Int)) rfl rfl (by rw [X.w_i64 Zz]; omega)) rfl ?_
  refine Zoai rfl rfl<|Ze<|Zs<|Zr<|Zoms rfl rfl<|Zomi rfl rfl<|Zo (X.cutL Zu43 Zs5 rfl rfl Zz) rfl<|Zc (X.callE (Open_c _ ((hs.drop (n - 8) c Zz Zz).keep ((hk1.trans hk2).trans hk3)) Zz Zz (hTb.keep ((hk1.trans hk2).trans hk3))) Zc92 rfl rfl) rfl ?_
  rintro _ w4 ⟨v4, rfl, hF4⟩
  obtain ⟨Ao1, co1, rfl, hco1, hso1, hk4⟩ := open_sl hF4
  have hk4' := hk4.size
  refine Zom rfl rfl<|Zo (X.extr rfl rfl) rfl<|Zo (X.extr rfl rfl) rfl<|Zoas rfl rfl<|Zoai rfl rfl<|Ze<|Zs<|Zr<|Zomi rfl rfl<|X.opPR (must_c _ _) X.wN rfl Zc93 rfl (fun b5 hb5 => ?_) (fun hb5 => ?_)
  ·rintro _ w5 ⟨rfl, hk5⟩
   have hk5' := hk5.size
   have ho1 := okE_s hb5
   obtain ⟨g1, g2⟩ := open_len ho1
   have hE1 : idxP xs = idx2 xs (openC (xs.drop (n - 8))).2 := by subst hsl; exact idx_c Zz ho1
   have hT4 : (openC (xs.drop (n - 8))).2.length = 4 := by rw [g2, List.length_take, List.length_drop]; omega
   obtain ⟨c0, c1, c2, c3, hT⟩ := list4 hT4
   have hT0 : (openC (xs.drop (n - 8))).2[0]? = some c0 := by rw [hT]; rfl
   have hT1 : (openC (xs.drop (n - 8))).2[1]? = some c1 := by rw [hT]; rfl
   have hT2 : (openC (xs.drop (n - 8))).2[2]? = some c2 := by rw [hT]; rfl
   have hT3 : (openC (xs.drop (n - 8))).2[3]? = some c3 := by rw [hT]; rfl
   have hTle : (le4 (openC (xs.drop (n - 8))).2) = c0.toNat + 256 * c1.toNat + 65536 * c2.toNat + 16777216 * c3.toNat := by rw [hT]; rfl
   have hc0 := c0.toNat_lt
   have hc1 := c1.toNat_lt
   have hc2 := c2.toNat_lt
   have hc3 := c3.toNat_lt
   refine Ze<|Zs<|X.regionD (fun _ => False) 22 Zl Zl (fun w6 hk6 hz6 => ?_)
   refine ZDc 0 rfl Zl (Zdms rfl)<|ZD 1 rfl Zl (fun w' hk' => X.idxS (hso1.keep ((hk5.trans hk6).trans hk')) Zu43 Zs5 rfl rfl ⟨by omega, by omega⟩)<|ZD 2 rfl Zl (fun w' hk' => X.loadS Zi5 (hso1.keep ((hk5.trans hk6).trans hk')) (j := 0) hT0 rfl (fun _ h => by rw [h.1]; rfl)) ?_
   refine ZDc 3 rfl Zl (X.cvI Zu5 Zu3 rfl (X.w_i64 Zz))<|ZDc 4 rfl Zl (Zdms rfl)<|ZD 5 rfl Zl (fun w' hk' => X.idxS (hso1.keep ((hk5.trans hk6).trans hk')) Zu43 Zs5 rfl rfl ⟨by omega, by omega⟩)<|ZD 6 rfl Zl (fun w' hk' => X.loadS Zi5 (hso1.keep ((hk5.trans hk6).trans hk')) (j := 1) hT1 rfl (fun _ h => by rw [h.1]; rfl)) ?_
   refine ZDc 7 rfl Zl (X.cvI Zu5 Zu3 rfl (X.w_i64 Zz))<|ZDc 8 rfl Zl (X.shl (c := ((c1.toNat * 2 ^ 8 : Nat) : Int)) rfl rfl (by decide) (shl64 c1.toNat 8 (by decide) Zz))<|ZDc 9 rfl Zl (X.or_ (c := (((c0.toNat + 2 ^ 8 * c1.toNat) : Nat) : Int)) rfl rfl (or64 c0.toNat c1.toNat 8 Zz (by decide) Zz))<|ZDc 10 rfl Zl (Zdms rfl)<|ZD 11 rfl Zl (fun w' hk' => X.idxS (hso1.keep ((hk5.trans hk6).trans hk')) Zu43 Zs5 rfl rfl ⟨by omega, by omega⟩)<|ZD 12 rfl Zl (fun w' hk' => X.loadS Zi5 (hso1.keep ((hk5.trans hk6).trans hk')) (j := 2) hT2 rfl (fun _ h => by rw [h.1]; rfl)) ?_
   refine ZDc 13 rfl Zl (X.cvI Zu5 Zu3 rfl (X.w_i64 Zz))<|ZDc 14 rfl Zl (X.shl (c := ((c2.toNat * 2 ^ 16 : Nat) : Int)) rfl rfl (by decide) (shl64 c2.toNat 16 (by decide) Zz))<|ZDc 15 rfl Zl (X.or_ (c := ((((c0.toNat + 2 ^ 8 * c1.toNat) + 2 ^ 16 * c2.toNat) : Nat) : Int)) rfl rfl (or64 (c0.toNat + 2 ^ 8 * c1.toNat) c2.toNat 16 Zz (by decide) Zz))<|ZDc 16 rfl Zl (Zdms rfl)<|ZD 17 rfl Zl (fun w' hk' => X.idxS (hso1.keep ((hk5.trans hk6).trans hk')) Zu43 Zs5 rfl rfl ⟨by omega, by omega⟩)<|ZD 18 rfl Zl (fun w' hk' => X.loadS Zi5 (hso1.keep ((hk5.trans hk6).trans hk')) (j := 3) hT3 rfl (fun _ h => by rw [h.1]; rfl)) ?_
   refine ZDc 19 rfl Zl (X.cvI Zu5 Zu3 rfl (X.w_i64 Zz))<|ZDc 20 rfl Zl (X.shl (c := ((c3.toNat * 2 ^ 24 : Nat) : Int)) rfl rfl (by decide) (shl64 c3.toNat 24 (by decide) Zz))<|ZDc 21 rfl Zl (X.or_ (c := (((le4 (openC (xs.drop (n - 8))).2) : Nat) : Int)) rfl rfl (by rw [show (le4 (openC (xs.drop (n - 8))).2) = (((c0.toNat + 2 ^ 8 * c1.toNat) + 2 ^ 16 * c2.toNat) + 2 ^ 24 * c3.toNat) by omega]; exact or64 ((c0.toNat + 2 ^ 8 * c1.toNat) + 2 ^ 16 * c2.toNat) c3.toNat 24 Zz (by decide) Zz)) ?_
   refine X.dStep (i := 22) Zl rfl (X.dwN rfl) (X.assign (v := .int .i64 _) rfl) (fun h => absurd h (by decide))<|Zdend Zl<|Zs<|Zs<|Zr<|Zomi rfl rfl<|Zomi rfl rfl<|X.opP X.wN rfl rfl (X.gtr rfl rfl) (fun h61 => ?_) (fun h61 => ?_)
   ·
    refine Ze<|Zt rfl<|Zr<|Zo (X.buildB (vs := []) (cs := #[]) rfl Zl) rfl<|Zo (X.mkIface Zu166 rfl rfl) rfl<|X.opPanic X.wN rfl ?_
    have hN : idxP xs = none := by rw [hE1]; subst hsl; exact idx_d Zz
    refine X.unw_defer Zc91 (fun h => by cases h) (rcaught_1 _ _ _ (hB3.keep ((hk4.trans hk5).trans hk6))) ?_
    rintro m wz ⟨rfl, hBz, hxz⟩
    have hxz' := hxz.size
    show X.Unw _ _ _ FrameMode.returning _ _ _ _
    refine X.unw_defer Zc90 (fun h => by cases h) (X.DCall.of_ret (zeroI1_c _ _ _ _ _ _ hBz ((hB1.keep ((((hk2.trans hk3).trans hk4).trans hk5).trans hk6)).ext hxz zq35) ((hB2.keep (((hk3.trans hk4).trans hk5).trans hk6)).ext hxz zq35) Zz Zz Zz)) ?_
    rintro m wq ⟨rfl, vq, hq1, hq2, hq3, hq4⟩
    show X.Unw _ _ _ FrameMode.returning _ _ _ _
    refine X.unwR3 Zf41 Zr41 (X.ResOk.cell rfl (X.lv1 Zi54 hq2 rfl)) (X.ResOk.cell rfl (X.lv1 Zi3 hq3 rfl)) (X.ResOk.cell rfl (X.lv1 Zi27 hq1 rfl)) ?_
    rw [hN]
    exact ⟨rfl, (((((((hk1.trans hk2).trans hk3).trans hk4).trans hk5).trans hk6)).step hxz zq25).step hq4 zq25⟩
   ·refine Ze<|Zf rfl<|Zk<|Zs<|Zr<|Zomi rfl rfl<|Zomi rfl rfl<|Zo (X.sub (c := (((n - 8 - (le4 (openC (xs.drop (n - 8))).2)) : Nat) : Int)) rfl rfl (by rw [X.w_i64 Zz]; omega)) rfl ?_
    refine Zoai rfl rfl<|Ze<|Zs<|Zr<|Zoms rfl rfl<|Zomi rfl rfl<|Zomi rfl rfl<|Zomi rfl rfl<|Zo (X.add (c := (((n - 8 - (le4 (openC (xs.drop (n - 8))).2)) + (le4 (openC (xs.drop (n - 8))).2) : Nat) : Int)) rfl rfl (by rw [X.w_i64 Zz]; omega)) rfl ?_
    refine Zo (X.cutLH Zu43 Zs5 rfl rfl rfl Zz) rfl<|Zc (X.callE (Open_c _ (((hs.take ((n - 8 - (le4 (openC (xs.drop (n - 8))).2)) + (le4 (openC (xs.drop (n - 8))).2)) Zz).drop (n - 8 - (le4 (openC (xs.drop (n - 8))).2)) c Zz Zz).keep (((((hk1.trans hk2).trans hk3).trans hk4).trans hk5).trans hk6)) Zz Zz (hTb.keep (((((hk1.trans hk2).trans hk3).trans hk4).trans hk5).trans hk6))) Zc92 rfl rfl) rfl ?_
    rintro _ w7 ⟨v7, rfl, hF7⟩
    obtain ⟨Ao2, co2, rfl, hco2, hso2, hk7⟩ := open_sl hF7
    have hk7' := hk7.size
    refine Zom rfl rfl<|Zo (X.extr rfl rfl) rfl<|Zo (X.extr rfl rfl) rfl<|Zoas rfl rfl<|Zoai rfl rfl<|Ze<|Zs<|Zr<|Zomi rfl rfl<|X.opPR (must_c _ _) X.wN rfl Zc93 rfl (fun b8 hb8 => ?_) (fun hb8 => ?_)
    ·rintro _ w8 ⟨rfl, hk8⟩
     have hk8' := hk8.size
     have ho2 := okE_s hb8
     obtain ⟨g3, g4⟩ := open_len ho2
     have hE2 : idxP xs = idx3 (n - 8 - (le4 (openC (xs.drop (n - 8))).2)) (openC ((xs.take ((n - 8 - (le4 (openC (xs.drop (n - 8))).2)) + (le4 (openC (xs.drop (n - 8))).2))).drop (n - 8 - (le4 (openC (xs.drop (n - 8))).2)))).2 := by rw [hE1]; subst hsl; exact idx_f Zz ho2
     have hx0 : (openC ((xs.take ((n - 8 - (le4 (openC (xs.drop (n - 8))).2)) + (le4 (openC (xs.drop (n - 8))).2))).drop (n - 8 - (le4 (openC (xs.drop (n - 8))).2)))).2.length ≤ 1000000 := by rw [g4, List.length_take, List.length_drop, List.length_take]; omega
     refine Ze<|Zs<|Zr<|Zoms rfl rfl<|X.opPR (rnum_c _ (hso2.keep hk8) Zz Zz Zz) X.wN rfl Zc94 rfl (fun z1 hz1 => ?_) (fun hz1 => ?_)
     ·rintro _ w9 ⟨An1, cn1, rfl, hnc1, _, hnl1, hsn1, hk9⟩
      have hk9' := hk9.size
      obtain ⟨pre1, _, hp1⟩ := pNum_suf hz1
      have hq1 := congrArg List.length hp1
      rw [List.length_append] at hq1
      have hr1 := List.length_pos_iff.2 ‹pre1 ≠ []›
      refine Zom rfl rfl<|Zo (X.extr rfl rfl) rfl<|Zo (X.extr rfl rfl) rfl<|Zoau rfl rfl<|Zoas rfl rfl<|Ze<|Zs<|Zr<|Zoms rfl rfl<|X.opPR (rnum_c _ hsn1 Zz Zz Zz) X.wN rfl Zc94 rfl (fun z2 hz2 => ?_) (fun hz2 => ?_)
      ·rintro _ w10 ⟨An2, cn2, rfl, hnc2, _, hnl2, hsn2, hk10⟩
       have hk10' := hk10.size
       obtain ⟨pre2, _, hp2⟩ := pNum_suf hz2
       have hq2 := congrArg List.length hp2
       rw [List.length_append] at hq2
       have hr2 := List.length_pos_iff.2 ‹pre2 ≠ []›
       refine Zom rfl rfl<|Zo (X.extr rfl rfl) rfl<|Zo (X.extr rfl rfl) rfl<|Zoau rfl rfl<|Zoas rfl rfl<|Ze<|Zs<|Zs<|Zr<|Zomu rfl rfl<|X.opP X.wN rfl rfl (X.gtr rfl rfl) (fun h90 => ?_) (fun h90 => ?_)
       ·
        refine Ze<|Zt rfl<|Zr<|Zo (X.buildB (vs := []) (cs := #[]) rfl Zl) rfl<|Zo (X.mkIface Zu166 rfl rfl) rfl<|X.opPanic X.wN rfl ?_
        have hN : idxP xs = none := by rw [hE2]; exact idx_i hz1 hz2 Zz
        refine X.unw_defer Zc91 (fun h => by cases h) (rcaught_1 _ _ _ (hB3.keep ((((((hk4.trans hk5).trans hk6).trans hk7).trans hk8).trans hk9).trans hk10))) ?_
        rintro m wz ⟨rfl, hBz, hxz⟩
        have hxz' := hxz.size
        show X.Unw _ _ _ FrameMode.returning _ _ _ _
        refine X.unw_defer Zc90 (fun h => by cases h) (X.DCall.of_ret (zeroI1_c _ _ _ _ _ _ hBz ((hB1.keep ((((((((hk2.trans hk3).trans hk4).trans hk5).trans hk6).trans hk7).trans hk8).trans hk9).trans hk10)).ext hxz zq35) ((hB2.keep (((((((hk3.trans hk4).trans hk5).trans hk6).trans hk7).trans hk8).trans hk9).trans hk10)).ext hxz zq35) Zz Zz Zz)) ?_
        rintro m wq ⟨rfl, vq, hq1, hq2, hq3, hq4⟩
        show X.Unw _ _ _ FrameMode.returning _ _ _ _
        refine X.unwR3 Zf41 Zr41 (X.ResOk.cell rfl (X.lv1 Zi54 hq2 rfl)) (X.ResOk.cell rfl (X.lv1 Zi3 hq3 rfl)) (X.ResOk.cell rfl (X.lv1 Zi27 hq1 rfl)) ?_
        rw [hN]
        exact ⟨rfl, (((((((((((hk1.trans hk2).trans hk3).trans hk4).trans hk5).trans hk6).trans hk7).trans hk8).trans hk9).trans hk10)).step hxz zq25).step hq4 zq25⟩
       ·have hE3 : idxP xs = (parts (n - 8 - (le4 (openC (xs.drop (n - 8))).2)) z1.1 0 none z2.2).map fun l => (l, z2.1) := by rw [hE2]; exact idx_j hz1 hz2 Zz
        refine Ze<|Zf rfl<|Zk<|Zs<|Zr<|Zoa rfl rfl<|Ze<|Zs<|Zs<|Zr<|Zomu rfl rfl<|Zom rfl rfl<|Ze<|Zb<|X.loopL (σ := Nat × Nat × Value × Option Addr × Nat × Nat × List UInt8) (fun s => [(2, .pointer (some ⟨w.heap.size, 0, none⟩)), (3, .pointer (some ⟨w1.heap.size, 0, none⟩)), (4, .pointer (some ⟨w2.heap.size, 0, none⟩)), (5, .int .i64 ((((n - 8 - (le4 (openC (xs.drop (n - 8))).2)) : Nat) : Int) : Int)), (9, .slice s.2.2.2.1 s.2.2.2.2.1 s.2.2.2.2.2.1), (11, .int .u64 ((z2.1 : Nat) : Int)), (12, .int .i64 (s.2.1 : Int)), (93, .int .u64 ((z1.1 : Nat) : Int)), (94, .int .u64 (s.1 : Int))]) (fun s w' => s.1 ≤ z1.1 ∧ s.2.1 ≤ (n - 8 - (le4 (openC (xs.drop (n - 8))).2)) ∧ Keep w w' ∧ Blk w' w.heap.size [s.2.2.1] 54 ∧ Blk w' w1.heap.size [.int .i64 0] 3 ∧ Blk w' w2.heap.size [.int .i64 0] 27 ∧ s.2.2.2.2.1 = s.2.2.2.2.2.2.length ∧ s.2.2.2.2.1 ≤ s.2.2.2.2.2.1 ∧ w10.heap.size ≤ w'.heap.size ∧ ∃ lo9 hi9, Sl KB lo9 hi9 w' s.2.2.2.1 s.2.2.2.2.1 s.2.2.2.2.2.2 ∧ w3.heap.size ≤ lo9 ∧ hi9 ≤ w10.heap.size ∧ ∃ L l S G, NRow NdLf 106 w10.heap.size w'.heap.size S G w' s.2.2.1 L l ∧ l.length + s.2.2.2.2.1 ≤ 1000000 ∧ idxP xs = ((parts (n - 8 - (le4 (openC (xs.drop (n - 8))).2)) (z1.1 - s.1) s.2.1 (lastT l) s.2.2.2.2.2.2).map (l ++ ·)).map fun l => (l, z2.1)) (fun s => z1.1 - s.1) (0, 0, .slice none 0 0, An2, z2.2.length, cn2, z2.2) ⟨rfl, rfl, rfl, rfl, rfl, rfl, rfl, rfl, rfl, trivial⟩ ⟨Nat.zero_le _, Nat.zero_le _, (((((((((hk1.trans hk2).trans hk3).trans hk4).trans hk5).trans hk6).trans hk7).trans hk8).trans hk9).trans hk10), (hB1.keep ((((((((hk2.trans hk3).trans hk4).trans hk5).trans hk6).trans hk7).trans hk8).trans hk9).trans hk10)), (hB2.keep (((((((hk3.trans hk4).trans hk5).trans hk6).trans hk7).trans hk8).trans hk9).trans hk10)), (hB3.keep ((((((hk4.trans hk5).trans hk6).trans hk7).trans hk8).trans hk9).trans hk10)), rfl, hnc2, by (try dsimp only); omega, _, _, hsn2, by omega, by omega, [], [], _, _, NRow.nil _ _ _ _ (Nat.le_refl _), by (try dsimp only); simp; omega, by (try dsimp only); rw [hE3, Nat.sub_zero]; exact map_nil⟩ ?_
        rintro ⟨i, a, v, A9, n9, c9, x9⟩ b w1 ⟨hi0, ha, hk, hB2, hB3, hB4, h9l, h9c, hbs, lo9, hi9, hs9, hlo9, hhi9, L, l, S, G, hNR, hll, hE⟩ hback
        dsimp only
        dsimp only at hi0 ha hB2 h9l h9c hs9 hNR hll hE
        have hk0 := hk.size
        obtain ⟨Av, cv, rfl, hcv, hsv⟩ := hNR.rd
        refine Zs<|Zr<|X.opP X.wN rfl rfl (X.lss rfl rfl) (fun h95 => ?_) (fun h95 => ?_)
        ·obtain ⟨k, hki⟩ : ∃ k, z1.1 - i = k + 1 := ⟨z1.1 - i - 1, by omega⟩
         refine Ze<|Zs<|Zt rfl<|Zk<|Zs<|Zb<|Zs<|Zr<|Zoa rfl rfl<|Ze<|Zs<|Zr<|Zoms rfl rfl<|X.opPR (rnum_c _ hs9 Zz Zz Zz) X.wN rfl Zc94 rfl (fun z3 hz3 => ?_) (fun hz3 => ?_)
         ·rintro _ w11 ⟨An3, cn3, rfl, hnc3, _, hnl3, hsn3, hk11⟩
          have hk11' := hk11.size
          obtain ⟨pre3, _, hp3⟩ := pNum_suf hz3
          have hq3 := congrArg List.length hp3
          rw [List.length_append] at hq3
          have hr3 := List.length_pos_iff.2 ‹pre3 ≠ []›
          refine Zom rfl rfl<|Zo (X.extr rfl rfl) rfl<|Zo (X.extr rfl rfl) rfl<|Zoau rfl rfl<|Zoas rfl rfl<|Ze<|Zs<|Zr<|Zoms rfl rfl<|Zc (X.callE (TakeText_c 1048576 ⟨by decide, by decide⟩ _ (hsn3.wide (Nat.zero_le _) Zz) Zz Zz) Tryz.call95 rfl rfl) rfl ?_
          rintro _ w12 ⟨vt, rfl, hMt, hk12⟩
          have hk12' := hk12.size
          refine Zom rfl rfl<|Zo (X.extr rfl rfl) rfl<|Zo (X.extr rfl rfl) rfl<|Zo (X.extr rfl rfl) rfl<|Zoa rfl rfl<|Zoai rfl rfl<|Zoai rfl rfl<|Ze<|Zs<|Zr<|Zomi rfl rfl<|X.opPR (must_c _ _) X.wN rfl Zc93 rfl (fun b13 hb13 => ?_) (fun hb13 => ?_)
          ·rintro _ w13 ⟨rfl, hk13⟩
           have hk13' := hk13.size
           obtain ⟨y, hy⟩ := okE_some hb13
           obtain ⟨pre, hpre, hxy⟩ := pText_suf hy
           have hyf := pText_fst hy
           have hyl : y.2.length ≤ z3.2.length := by omega
           have hcn : cnt (pText 1048576 z3.2) z3.2.length = ((z3.2.length - y.2.length : Nat) : Int) := by rw [hy]; show (z3.2.length : Int) - (y.2.length : Int) = _; omega
           have htd : told (pText 1048576 z3.2) [] = y.1 := by rw [hy]; rfl
           have htl : (told (pText 1048576 z3.2) []).length ≤ 1000000 := by rw [htd]; omega
           refine Ze<|Zs<|Zr<|Zoms rfl rfl<|Zomi rfl rfl ?_
           have hsd := ((hsn3.keep (hk12.trans hk13))).drop (cnt (pText 1048576 z3.2) z3.2.length).toNat cn3 Zz Zz
           rw [show z3.2.drop (cnt (pText 1048576 z3.2) z3.2.length).toNat = y.2 by rw [hcn, Int.toNat_natCast]; exact suf_drop hxy] at hsd
           refine Zo (X.cutL (m := cnt (pText 1048576 z3.2) z3.2.length) Zu43 Zs5 rfl rfl ⟨by omega, by omega⟩) rfl<|Zoa rfl rfl<|Ze<|Zs<|Zr<|Zom rfl rfl ?_
           have q15 := (hMt.keep hk13).slF KB_flat 0 (fun _ _ => Nat.zero_le _)
           obtain ⟨A15, c15, rfl, hc15, hs15⟩ := q15
           refine Zc (X.callE (FromKey_c _ (hs15.wide (Nat.le_refl _) Zz) (by first | assumption | omega) htl) Tryz.call96 rfl rfl) rfl ?_
           rintro _ w14 ⟨vk, rfl, hMk, hk14⟩
           obtain ⟨Ak, ck, rfl, hck, hsk⟩ := mineKV_sl hMk
           have hk14' := hk14.size
           refine Zom rfl rfl<|Zo (X.extr rfl rfl) rfl<|Zo (X.extr rfl rfl) rfl<|Zoas rfl rfl<|Zoai rfl rfl<|Ze<|Zs<|Zr<|Zomi rfl rfl<|X.opPR (must_c _ _) X.wN rfl Zc93 rfl (fun b16 hb16 => ?_) (fun hb16 => ?_)
           ·rintro _ w16 ⟨rfl, hk16⟩
            have hk16' := hk16.size
            obtain ⟨t, ht⟩ : ∃ t, pFrom y.1 = some t := by
              have h0 := okE_s hb16
              rw [htd] at h0
              cases hp : pFrom y.1 with
              | none => rw [hp] at h0; exact absurd h0 (by decide)
              | some t => exact ⟨t, rfl⟩
            refine Ze<|Zs<|Zs<|Zr<|Zomu rfl rfl<|Zomi rfl rfl<|Zomi rfl rfl<|Zo (X.sub rfl rfl (X.w_i64 Zz)) rfl<|Zo (X.cvI Zu3 Zu119 rfl (X.w_u64 Zz)) rfl<|X.opP X.wN rfl rfl (X.gtr rfl rfl) (fun h124 => ?_) (fun h124 => ?_)
            ·have hskt := sl_cast hsk (show (pFrom (told (pText 1048576 z3.2) [])).getD [] = t by rw [htd, ht]; rfl)
             refine Zomt rfl rfl<|Zp rfl rfl rfl<|Zp rfl rfl rfl<|Zp rfl rfl rfl<|Zp rfl rfl rfl<|Zu rfl rfl rfl<|Zu rfl rfl rfl<|Zu rfl rfl rfl<|Zu rfl rfl rfl<|Zu rfl rfl rfl<|Zu rfl rfl rfl<|Zu rfl rfl rfl<|Zu rfl rfl rfl<|Zu rfl rfl rfl<|Zu rfl rfl rfl<|Zp rfl rfl rfl<|Zo (ZdTt rfl rfl) rfl<|Ze<|Zt rfl<|Zr<|Zo (X.buildB (vs := []) (cs := #[]) rfl Zl) rfl<|Zo (X.mkIface Zu166 rfl rfl) rfl<|X.opPanic X.wN rfl ?_
             have hN : idxP xs = none := by rw [hE, hki, parts_4 hz3 hy ht (.inl Zz)]; rfl
             refine X.unw_defer Zc91 (fun h => by cases h) (rcaught_1 _ _ _ (hB4.keep ((((hk11.trans hk12).trans hk13).trans hk14).trans hk16))) ?_
             rintro m wz ⟨rfl, hBz, hxz⟩
             have hxz' := hxz.size
             show X.Unw _ _ _ FrameMode.returning _ _ _ _
             refine X.unw_defer Zc90 (fun h => by cases h) (X.DCall.of_ret (zeroI1_c _ _ _ _ _ _ hBz ((hB2.keep ((((hk11.trans hk12).trans hk13).trans hk14).trans hk16)).ext hxz zq35) ((hB3.keep ((((hk11.trans hk12).trans hk13).trans hk14).trans hk16)).ext hxz zq35) Zz Zz Zz)) ?_
             rintro m wq ⟨rfl, vq, hq1, hq2, hq3, hq4⟩
             show X.Unw _ _ _ FrameMode.returning _ _ _ _
             refine X.unwR3 Zf41 Zr41 (X.ResOk.cell rfl (X.lv1 Zi54 hq2 rfl)) (X.ResOk.cell rfl (X.lv1 Zi3 hq3 rfl)) (X.ResOk.cell rfl (X.lv1 Zi27 hq1 rfl)) ?_
             rw [hN]
             exact ⟨rfl, (((((((hk.trans hk11).trans hk12).trans hk13).trans hk14).trans hk16)).step hxz zq25).step hq4 zq25⟩
            ·have hskt := sl_cast hsk (show (pFrom (told (pText 1048576 z3.2) [])).getD [] = t by rw [htd, ht]; rfl)
             refine Zomf rfl rfl<|Zg (X.load1B Zi54 (hB2.keep ((((hk11.trans hk12).trans hk13).trans hk14).trans hk16)) rfl rfl) rfl rfl rfl rfl<|Zg (X.lenSl Zu54 rfl) rfl rfl rfl rfl<|X.opP (X.wG rfl rfl rfl) rfl rfl (X.gtr rfl rfl) (fun h128 => ?_) (fun h128 => ?_)
             ·obtain ⟨xl, hxl⟩ : ∃ xl, L[l.length - 1]? = some xl := ⟨_, List.getElem?_eq_getElem (by rw [hNR.d.1]; omega)⟩
              obtain ⟨ql, hql, _, _, _, loq, hiq, _, hqs⟩ := hNR.d.2 _ _ hxl
              have hla := last_at hql
              have hxl' : L[((l.length : Int) - 1).toNat]? = some xl := by rw [show ((l.length : Int) - 1).toNat = l.length - 1 by omega]; exact hxl
              refine Zg (Zdmt rfl) rfl rfl rfl rfl<|Zg (X.load1B Zi54 (hB2.keep ((((hk11.trans hk12).trans hk13).trans hk14).trans hk16)) rfl rfl) rfl rfl rfl rfl<|Zg (X.load1B Zi54 (hB2.keep ((((hk11.trans hk12).trans hk13).trans hk14).trans hk16)) rfl rfl) rfl rfl rfl rfl<|Zg (X.lenSl Zu54 rfl) rfl rfl rfl rfl<|Zg (X.sub rfl rfl (X.w_i64 Zz)) rfl rfl rfl rfl<|Zg (X.idxS (hsv.keep ((((hk11.trans hk12).trans hk13).trans hk14).trans hk16)) Zu54 Zs106 rfl rfl ⟨by omega, by omega⟩) rfl rfl rfl rfl<|Zg (X.fldA Tryz.underlying106 rfl rfl Tryz.sizeOf38) rfl rfl rfl rfl<|Zg (X.loadSf (o := 2) Tryz.isAgg38 (hsv.keep ((((hk11.trans hk12).trans hk13).trans hk14).trans hk16)) hxl' rfl (fun _ h => by rw [h.1]; rfl)) rfl rfl rfl rfl ?_
              refine Zg (Zdms rfl) rfl rfl rfl rfl<|X.opE (X.wG rfl rfl rfl) rfl (X.callE (tupleCompare_c _ (hqs.keep ((((hk11.trans hk12).trans hk13).trans hk14).trans hk16)) (hsk.keep hk16)) Tryz.call47 rfl rfl) ?_
              rintro _ w17 ⟨rfl, hk17⟩
              have hk17' := hk17.size
              refine X.opP (X.wG rfl rfl rfl) rfl rfl (X.geq rfl rfl) (fun h139 => ?_) (fun h139 => ?_)
              ·have h139' : 0 ≤ cmpT ql.2.2 t := by
                 have h0 := h139
                 rw [show (pFrom (told (pText 1048576 z3.2) [])).getD [] = t by rw [htd, ht]; rfl] at h0
                 exact h0
               refine Zg (ZdTt rfl rfl) rfl rfl rfl rfl<|Zo (ZdFt rfl rfl) rfl<|Ze<|Zt rfl<|Zr<|Zo (X.buildB (vs := []) (cs := #[]) rfl Zl) rfl<|Zo (X.mkIface Zu166 rfl rfl) rfl<|X.opPanic X.wN rfl ?_
               have hN : idxP xs = none := by rw [hE, hki, parts_4 hz3 hy ht (.inr (by rw [hla]; exact decide_eq_true h139'))]; rfl
               refine X.unw_defer Zc91 (fun h => by cases h) (rcaught_1 _ _ _ (hB4.keep (((((hk11.trans hk12).trans hk13).trans hk14).trans hk16).trans hk17))) ?_
               rintro m wz ⟨rfl, hBz, hxz⟩
               have hxz' := hxz.size
               show X.Unw _ _ _ FrameMode.returning _ _ _ _
               refine X.unw_defer Zc90 (fun h => by cases h) (X.DCall.of_ret (zeroI1_c _ _ _ _ _ _ hBz ((hB2.keep (((((hk11.trans hk12).trans hk13).trans hk14).trans hk16).trans hk17)).ext hxz zq35) ((hB3.keep (((((hk11.trans hk12).trans hk13).trans hk14).trans hk16).trans hk17)).ext hxz zq35) Zz Zz Zz)) ?_
               rintro m wq ⟨rfl, vq, hq1, hq2, hq3, hq4⟩
               show X.Unw _ _ _ FrameMode.returning _ _ _ _
               refine X.unwR3 Zf41 Zr41 (X.ResOk.cell rfl (X.lv1 Zi54 hq2 rfl)) (X.ResOk.cell rfl (X.lv1 Zi3 hq3 rfl)) (X.ResOk.cell rfl (X.lv1 Zi27 hq1 rfl)) ?_
               rw [hN]
               exact ⟨rfl, ((((((((hk.trans hk11).trans hk12).trans hk13).trans hk14).trans hk16).trans hk17)).step hxz zq25).step hq4 zq25⟩
              ·have h139' : ¬ 0 ≤ cmpT ql.2.2 t := by
                 have h0 := h139
                 rw [show (pFrom (told (pText 1048576 z3.2) [])).getD [] = t by rw [htd, ht]; rfl] at h0
                 exact h0
               have hbad : ¬ badL (lastT l) t = true := by rw [hla]; exact fun h => h139' (of_decide_eq_true h)
               refine Zg (ZdTf rfl rfl) rfl rfl rfl rfl<|Zo (ZdFf rfl rfl) rfl<|Ze<|Zf rfl<|Zk<|Zs<|Zr<|Zo (X.load1B Zi54 (hB2.keep (((((hk11.trans hk12).trans hk13).trans hk14).trans hk16).trans hk17)) rfl rfl) rfl<|Zomi rfl rfl<|Zomu rfl rfl<|Zo (X.cvI Zu119 Zu3 rfl (X.w_i64 Zz)) rfl<|Zoms rfl rfl<|Zo (X.buildB (vs := [(0, .int .i64 (a : Int)), (1, .int .i64 ((z3.1 : Nat) : Int)), (2, .slice Ak ((pFrom (told (pText 1048576 z3.2) [])).getD []).length ck)]) (cs := #[.int .i64 (a : Int), .int .i64 ((z3.1 : Nat) : Int), .slice Ak ((pFrom (told (pText 1048576 z3.2) [])).getD []).length ck]) rfl Zl) rfl<|Zc (X.litKF KLf_flat (K := KLf) (xs := [Operand.tmp 149]) (vs := [evLf (a, z3.1, (Ak, ((pFrom (told (pText 1048576 z3.2) [])).getD []).length, ck))]) (ys := [(a, z3.1, (Ak, ((pFrom (told (pText 1048576 z3.2) [])).getD []).length, ck))]) Zu54 Zs106 Tryz.zeroValue106 rfl rfl rfl rfl rfl (repsLf _)) rfl ?_
               rintro _ w18 ⟨rfl, hs18, hB18, hk18, hz18⟩
               refine Zc (NRow.app (y := (a, z3.1, (Ak, ((pFrom (told (pText 1048576 z3.2) [])).getD []).length, ck))) (q := (a, z3.1, t)) (hNR.keep ((((((hk11.trans hk12).trans hk13).trans hk14).trans hk16).trans hk17).trans hk18)) hs18 ⟨rfl, rfl, hck, _, _, fun _ h1 h2 => ⟨h1, h2⟩, hskt.keep ((hk16.trans hk17).trans hk18)⟩ Zz Zz Zz Zu54 ELf rfl rfl Zz) rfl ?_
               rintro _ w19 ⟨Aq, cq, S', G', rfl, hNn, hx19⟩
               have hx19' := hx19.size
               refine Zc (X.storeE Zs54 ((hB2.keep ((((((hk11.trans hk12).trans hk13).trans hk14).trans hk16).trans hk17).trans hk18)).ext hx19 zq5) rfl rfl rfl rfl) rfl ?_
               rintro _ w20 ⟨hB20, hx20, hz20⟩
               refine Ze<|Zr<|Zomi rfl rfl<|Zomu rfl rfl<|Zo (X.cvI Zu119 Zu3 rfl (X.w_i64 Zz)) rfl<|Zo (X.add (c := ((a + z3.1 : Nat) : Int)) rfl rfl (by rw [X.w_i64 Zz]; omega)) rfl ?_
               refine Zoai rfl rfl<|Ze<|Zi<|Zr<|Zo (X.add (c := ((i + 1 : Nat) : Int)) rfl rfl (by rw [X.w_u64 Zz]; omega)) rfl ?_
               refine Zomu rfl rfl<|Ze ?_
               refine hback (i + 1, a + z3.1, .slice Aq (l ++ [(a, z3.1, t)]).length cq, _, _, _, y.2) _ _ ⟨rfl, rfl, rfl, rfl, rfl, rfl, rfl, rfl, rfl, trivial⟩ ⟨by (try dsimp only); omega, by (try dsimp only); omega, (((((((((hk.trans hk11).trans hk12).trans hk13).trans hk14).trans hk16).trans hk17).trans hk18).step hx19 zq18).step hx20 zq18), hB20, (((hB3.keep ((((((hk11.trans hk12).trans hk13).trans hk14).trans hk16).trans hk17).trans hk18)).ext hx19 zq5).ext hx20 zq5), (((hB4.keep ((((((hk11.trans hk12).trans hk13).trans hk14).trans hk16).trans hk17).trans hk18)).ext hx19 zq5).ext hx20 zq5), ?_, ?_, by (try dsimp only); omega, _, _, (((hsd.keep (((hk14.trans hk16).trans hk17).trans hk18)).ext hx19 zq5).ext hx20 zq5), hlo9, hhi9, L ++ [_], l ++ [(a, z3.1, t)], S', G', ((hNn.ext hx20 zq5)).all, ?_, ?_⟩ ?_
               ·(try dsimp only); rw [hcn, Int.toNat_natCast]; omega
               ·(try dsimp only); rw [hcn, Int.toNat_natCast]; omega
               ·(try dsimp only); rw [List.length_append, List.length_singleton, hcn, Int.toNat_natCast]; omega
               ·(try dsimp only); rw [hE, hki, parts_5 hz3 hy ht (by intro hh; rcases hh with hh | hh; omega; exact hbad hh), map_snoc, lastT_snoc, show z1.1 - (i + 1) = k by omega]
               ·(try dsimp only); omega
             ·have hbad : ¬ badL (lastT l) t = true := by rw [last_nil Zz]; exact fun h => by cases h
              refine Zg (Zdmf rfl) rfl rfl rfl rfl<|Zp rfl rfl rfl<|Zp rfl rfl rfl<|Zp rfl rfl rfl<|Zp rfl rfl rfl<|Zp rfl rfl rfl<|Zp rfl rfl rfl<|Zp rfl rfl rfl<|Zp rfl rfl rfl<|Zp rfl rfl rfl<|Zp rfl rfl rfl<|Zg (ZdFf rfl rfl) rfl rfl rfl rfl<|Zo (ZdFf rfl rfl) rfl<|Ze<|Zf rfl<|Zk<|Zs<|Zr<|Zo (X.load1B Zi54 (hB2.keep ((((hk11.trans hk12).trans hk13).trans hk14).trans hk16)) rfl rfl) rfl<|Zomi rfl rfl<|Zomu rfl rfl<|Zo (X.cvI Zu119 Zu3 rfl (X.w_i64 Zz)) rfl<|Zoms rfl rfl<|Zo (X.buildB (vs := [(0, .int .i64 (a : Int)), (1, .int .i64 ((z3.1 : Nat) : Int)), (2, .slice Ak ((pFrom (told (pText 1048576 z3.2) [])).getD []).length ck)]) (cs := #[.int .i64 (a : Int), .int .i64 ((z3.1 : Nat) : Int), .slice Ak ((pFrom (told (pText 1048576 z3.2) [])).getD []).length ck]) rfl Zl) rfl<|Zc (X.litKF KLf_flat (K := KLf) (xs := [Operand.tmp 149]) (vs := [evLf (a, z3.1, (Ak, ((pFrom (told (pText 1048576 z3.2) [])).getD []).length, ck))]) (ys := [(a, z3.1, (Ak, ((pFrom (told (pText 1048576 z3.2) [])).getD []).length, ck))]) Zu54 Zs106 Tryz.zeroValue106 rfl rfl rfl rfl rfl (repsLf _)) rfl ?_
              rintro _ w21 ⟨rfl, hs21, hB21, hk21, hz21⟩
              refine Zc (NRow.app (y := (a, z3.1, (Ak, ((pFrom (told (pText 1048576 z3.2) [])).getD []).length, ck))) (q := (a, z3.1, t)) (hNR.keep (((((hk11.trans hk12).trans hk13).trans hk14).trans hk16).trans hk21)) hs21 ⟨rfl, rfl, hck, _, _, fun _ h1 h2 => ⟨h1, h2⟩, hskt.keep (hk16.trans hk21)⟩ Zz Zz Zz Zu54 ELf rfl rfl Zz) rfl ?_
              rintro _ w22 ⟨Aq, cq, S', G', rfl, hNn, hx22⟩
              have hx22' := hx22.size
              refine Zc (X.storeE Zs54 ((hB2.keep (((((hk11.trans hk12).trans hk13).trans hk14).trans hk16).trans hk21)).ext hx22 zq5) rfl rfl rfl rfl) rfl ?_
              rintro _ w23 ⟨hB23, hx23, hz23⟩
              refine Ze<|Zr<|Zomi rfl rfl<|Zomu rfl rfl<|Zo (X.cvI Zu119 Zu3 rfl (X.w_i64 Zz)) rfl<|Zo (X.add (c := ((a + z3.1 : Nat) : Int)) rfl rfl (by rw [X.w_i64 Zz]; omega)) rfl ?_
              refine Zoai rfl rfl<|Ze<|Zi<|Zr<|Zo (X.add (c := ((i + 1 : Nat) : Int)) rfl rfl (by rw [X.w_u64 Zz]; omega)) rfl ?_
              refine Zomu rfl rfl<|Ze ?_
              refine hback (i + 1, a + z3.1, .slice Aq (l ++ [(a, z3.1, t)]).length cq, _, _, _, y.2) _ _ ⟨rfl, rfl, rfl, rfl, rfl, rfl, rfl, rfl, rfl, trivial⟩ ⟨by (try dsimp only); omega, by (try dsimp only); omega, ((((((((hk.trans hk11).trans hk12).trans hk13).trans hk14).trans hk16).trans hk21).step hx22 zq18).step hx23 zq18), hB23, (((hB3.keep (((((hk11.trans hk12).trans hk13).trans hk14).trans hk16).trans hk21)).ext hx22 zq5).ext hx23 zq5), (((hB4.keep (((((hk11.trans hk12).trans hk13).trans hk14).trans hk16).trans hk21)).ext hx22 zq5).ext hx23 zq5), ?_, ?_, by (try dsimp only); omega, _, _, (((hsd.keep ((hk14.trans hk16).trans hk21)).ext hx22 zq5).ext hx23 zq5), hlo9, hhi9, L ++ [_], l ++ [(a, z3.1, t)], S', G', ((hNn.ext hx23 zq5)).all, ?_, ?_⟩ ?_
              ·(try dsimp only); rw [hcn, Int.toNat_natCast]; omega
              ·(try dsimp only); rw [hcn, Int.toNat_natCast]; omega
              ·(try dsimp only); rw [List.length_append, List.length_singleton, hcn, Int.toNat_natCast]; omega
              ·(try dsimp only); rw [hE, hki, parts_5 hz3 hy ht (by intro hh; rcases hh with hh | hh; omega; exact hbad hh), map_snoc, lastT_snoc, show z1.1 - (i + 1) = k by omega]
              ·(try dsimp only); omega
           ·rintro w16 hx16
            have hx16' := hx16.size
            have hN : idxP xs = none := by
              have h0 := okE_n hb16
              rw [htd] at h0
              have hp : pFrom y.1 = none := by
                cases hp : pFrom y.1 with
                | none => rfl
                | some t => rw [hp] at h0; exact absurd rfl h0
              rw [hE, hki, parts_3 hz3 hy hp]; rfl
            refine X.unw_defer Zc91 (fun h => by cases h) (rcaught_1 _ _ _ ((hB4.keep (((hk11.trans hk12).trans hk13).trans hk14)).ext hx16 zq5)) ?_
            rintro m wz ⟨rfl, hBz, hxz⟩
            have hxz' := hxz.size
            show X.Unw _ _ _ FrameMode.returning _ _ _ _
            refine X.unw_defer Zc90 (fun h => by cases h) (X.DCall.of_ret (zeroI1_c _ _ _ _ _ _ hBz (((hB2.keep (((hk11.trans hk12).trans hk13).trans hk14)).ext hx16 zq5).ext hxz zq35) (((hB3.keep (((hk11.trans hk12).trans hk13).trans hk14)).ext hx16 zq5).ext hxz zq35) Zz Zz Zz)) ?_
            rintro m wq ⟨rfl, vq, hq1, hq2, hq3, hq4⟩
            show X.Unw _ _ _ FrameMode.returning _ _ _ _
            refine X.unwR3 Zf41 Zr41 (X.ResOk.cell rfl (X.lv1 Zi54 hq2 rfl)) (X.ResOk.cell rfl (X.lv1 Zi3 hq3 rfl)) (X.ResOk.cell rfl (X.lv1 Zi27 hq1 rfl)) ?_
            rw [hN]
            exact ⟨rfl, (((((((hk.trans hk11).trans hk12).trans hk13).trans hk14).step hx16 zq18)).step hxz zq25).step hq4 zq25⟩
          ·rintro w13 hx13
           have hx13' := hx13.size
           have hN : idxP xs = none := by rw [hE, hki, parts_2 hz3 (okE_none hb13)]; rfl
           refine X.unw_defer Zc91 (fun h => by cases h) (rcaught_1 _ _ _ ((hB4.keep (hk11.trans hk12)).ext hx13 zq5)) ?_
           rintro m wz ⟨rfl, hBz, hxz⟩
           have hxz' := hxz.size
           show X.Unw _ _ _ FrameMode.returning _ _ _ _
           refine X.unw_defer Zc90 (fun h => by cases h) (X.DCall.of_ret (zeroI1_c _ _ _ _ _ _ hBz (((hB2.keep (hk11.trans hk12)).ext hx13 zq5).ext hxz zq35) (((hB3.keep (hk11.trans hk12)).ext hx13 zq5).ext hxz zq35) Zz Zz Zz)) ?_
           rintro m wq ⟨rfl, vq, hq1, hq2, hq3, hq4⟩
           show X.Unw _ _ _ FrameMode.returning _ _ _ _
           refine X.unwR3 Zf41 Zr41 (X.ResOk.cell rfl (X.lv1 Zi54 hq2 rfl)) (X.ResOk.cell rfl (X.lv1 Zi3 hq3 rfl)) (X.ResOk.cell rfl (X.lv1 Zi27 hq1 rfl)) ?_
           rw [hN]
           exact ⟨rfl, (((((hk.trans hk11).trans hk12).step hx13 zq18)).step hxz zq25).step hq4 zq25⟩
         ·rintro w11 hx11
          have hx11' := hx11.size
          have hN : idxP xs = none := by rw [hE, hki, parts_1 hz3]; rfl
          refine X.unw_defer Zc91 (fun h => by cases h) (rcaught_1 _ _ _ (hB4.ext hx11 zq5)) ?_
          rintro m wz ⟨rfl, hBz, hxz⟩
          have hxz' := hxz.size
          show X.Unw _ _ _ FrameMode.returning _ _ _ _
          refine X.unw_defer Zc90 (fun h => by cases h) (X.DCall.of_ret (zeroI1_c _ _ _ _ _ _ hBz ((hB2.ext hx11 zq5).ext hxz zq35) ((hB3.ext hx11 zq5).ext hxz zq35) Zz Zz Zz)) ?_
          rintro m wq ⟨rfl, vq, hq1, hq2, hq3, hq4⟩
          show X.Unw _ _ _ FrameMode.returning _ _ _ _
          refine X.unwR3 Zf41 Zr41 (X.ResOk.cell rfl (X.lv1 Zi54 hq2 rfl)) (X.ResOk.cell rfl (X.lv1 Zi3 hq3 rfl)) (X.ResOk.cell rfl (X.lv1 Zi27 hq1 rfl)) ?_
          rw [hN]
          exact ⟨rfl, (((hk.step hx11 zq18)).step hxz zq25).step hq4 zq25⟩
        ·refine Ze<|Zs<|Zf rfl<|Zx rfl<|Zs<|Zs<|Zr<|Zoms rfl rfl<|Zo (X.lenSl Zu43 rfl) rfl<|X.opP X.wN rfl rfl (X.gtr rfl rfl) (fun h159 => ?_) (fun h159 => ?_)
         ·
          refine Zomt rfl rfl<|Zp rfl rfl rfl<|Zp rfl rfl rfl<|Zp rfl rfl rfl<|Zo (ZdTt rfl rfl) rfl<|Ze<|Zt rfl<|Zr<|Zo (X.buildB (vs := []) (cs := #[]) rfl Zl) rfl<|Zo (X.mkIface Zu166 rfl rfl) rfl<|X.opPanic X.wN rfl ?_
          have hN : idxP xs = none := by
            rw [hE, show z1.1 - i = 0 by omega, parts, if_neg (fun h => by rw [h.1] at h9l; simp at h9l; omega)]; rfl
          refine X.unw_defer Zc91 (fun h => by cases h) (rcaught_1 _ _ _ hB4) ?_
          rintro m wz ⟨rfl, hBz, hxz⟩
          have hxz' := hxz.size
          show X.Unw _ _ _ FrameMode.returning _ _ _ _
          refine X.unw_defer Zc90 (fun h => by cases h) (X.DCall.of_ret (zeroI1_c _ _ _ _ _ _ hBz (hB2.ext hxz zq35) (hB3.ext hxz zq35) Zz Zz Zz)) ?_
          rintro m wq ⟨rfl, vq, hq1, hq2, hq3, hq4⟩
          show X.Unw _ _ _ FrameMode.returning _ _ _ _
          refine X.unwR3 Zf41 Zr41 (X.ResOk.cell rfl (X.lv1 Zi54 hq2 rfl)) (X.ResOk.cell rfl (X.lv1 Zi3 hq3 rfl)) (X.ResOk.cell rfl (X.lv1 Zi27 hq1 rfl)) ?_
          rw [hN]
          exact ⟨rfl, ((hk).step hxz zq25).step hq4 zq25⟩
         ·refine Zomf rfl rfl<|Zg (Zdmi rfl) rfl rfl rfl rfl<|Zg (Zdmi rfl) rfl rfl rfl rfl<|X.opP (X.wG rfl rfl rfl) rfl rfl (X.neI rfl rfl) (fun h163 => ?_) (fun h163 => ?_)
          ·
           refine Zo (ZdFt rfl rfl) rfl<|Ze<|Zt rfl<|Zr<|Zo (X.buildB (vs := []) (cs := #[]) rfl Zl) rfl<|Zo (X.mkIface Zu166 rfl rfl) rfl<|X.opPanic X.wN rfl ?_
           have hN : idxP xs = none := by
             rw [hE, show z1.1 - i = 0 by omega, parts, if_neg (fun h => by omega)]; rfl
           refine X.unw_defer Zc91 (fun h => by cases h) (rcaught_1 _ _ _ hB4) ?_
           rintro m wz ⟨rfl, hBz, hxz⟩
           have hxz' := hxz.size
           show X.Unw _ _ _ FrameMode.returning _ _ _ _
           refine X.unw_defer Zc90 (fun h => by cases h) (X.DCall.of_ret (zeroI1_c _ _ _ _ _ _ hBz (hB2.ext hxz zq35) (hB3.ext hxz zq35) Zz Zz Zz)) ?_
           rintro m wq ⟨rfl, vq, hq1, hq2, hq3, hq4⟩
           show X.Unw _ _ _ FrameMode.returning _ _ _ _
           refine X.unwR3 Zf41 Zr41 (X.ResOk.cell rfl (X.lv1 Zi54 hq2 rfl)) (X.ResOk.cell rfl (X.lv1 Zi3 hq3 rfl)) (X.ResOk.cell rfl (X.lv1 Zi27 hq1 rfl)) ?_
           rw [hN]
           exact ⟨rfl, ((hk).step hxz zq25).step hq4 zq25⟩
          ·refine Zo (ZdFf rfl rfl) rfl<|Ze<|Zf rfl<|Zk<|Zs<|Zr<|Zo (X.load1B Zi54 hB2 rfl rfl) rfl<|Zomu rfl rfl<|Zo (X.cvI Zu119 Zu3 rfl (X.w_i64 Zz)) rfl<|Zc (X.storeE Zs54 hB2 rfl rfl rfl rfl) rfl ?_
           rintro _ w24 ⟨hB24, hx24, hz24⟩
           refine Zc (X.storeE Tryz.sizeOf3 (hB3.ext hx24 zq5) rfl rfl rfl rfl) rfl ?_
           rintro _ w25 ⟨hB25, hx25, hz25⟩
           refine Zc (X.storeE Tryz.sizeOf27 ((hB4.ext hx24 zq5).ext hx25 zq5) rfl rfl rfl rfl) rfl ?_
           rintro _ w26 ⟨hB26, hx26, hz26⟩
           refine Ze<|X.ret_unw<|X.unw_defer Zc91 (fun h => by cases h) (rcaught_0 _ _) ?_
           rintro m wz ⟨rfl, rfl⟩
           show X.Unw _ _ _ FrameMode.returning _ _ _ _
           refine X.unw_defer Zc90 (fun h => by cases h) (X.DCall.of_ret (zeroI0_c _ _ _ _ hB26)) ?_
           rintro m wz ⟨rfl, vz, rfl⟩
           show X.Unw _ _ _ FrameMode.returning _ _ _ _
           refine X.unwR3 Zf41 Zr41 (X.ResOk.cell rfl (X.lv1 Zi54 ((hB24.ext hx25 zq5).ext hx26 zq5) rfl)) (X.ResOk.cell rfl (X.lv1 Zi3 (hB25.ext hx26 zq5) rfl)) (X.ResOk.cell rfl (X.lv1 Zi27 hB26 rfl)) ?_
           have hfin : idxP xs = some (l, z2.1) := by
             rw [hE, show z1.1 - i = 0 by omega, parts, if_pos ⟨List.eq_nil_of_length_eq_zero Zz, by omega⟩]; simp
           rw [hfin]
           have hNf := (((hNR.ext hx24 zq5).ext hx25 zq5).ext hx26 zq5)
           exact ⟨⟨_, L, _, S, G, rfl, hNf.low Zz⟩, (((hk.step hx24 zq18).step hx25 zq18).step hx26 zq18)⟩
      ·rintro w10 hx10
       have hx10' := hx10.size
       have hN : idxP xs = none := by rw [hE2]; exact idx_h hz1 hz2
       refine X.unw_defer Zc91 (fun h => by cases h) (rcaught_1 _ _ _ ((hB3.keep (((((hk4.trans hk5).trans hk6).trans hk7).trans hk8).trans hk9)).ext hx10 zq5)) ?_
       rintro m wz ⟨rfl, hBz, hxz⟩
       have hxz' := hxz.size
       show X.Unw _ _ _ FrameMode.returning _ _ _ _
       refine X.unw_defer Zc90 (fun h => by cases h) (X.DCall.of_ret (zeroI1_c _ _ _ _ _ _ hBz (((hB1.keep (((((((hk2.trans hk3).trans hk4).trans hk5).trans hk6).trans hk7).trans hk8).trans hk9)).ext hx10 zq5).ext hxz zq35) (((hB2.keep ((((((hk3.trans hk4).trans hk5).trans hk6).trans hk7).trans hk8).trans hk9)).ext hx10 zq5).ext hxz zq35) Zz Zz Zz)) ?_
       rintro m wq ⟨rfl, vq, hq1, hq2, hq3, hq4⟩
       show X.Unw _ _ _ FrameMode.returning _ _ _ _
       refine X.unwR3 Zf41 Zr41 (X.ResOk.cell rfl (X.lv1 Zi54 hq2 rfl)) (X.ResOk.cell rfl (X.lv1 Zi3 hq3 rfl)) (X.ResOk.cell rfl (X.lv1 Zi27 hq1 rfl)) ?_
       rw [hN]
       exact ⟨rfl, (((((((((((hk1.trans hk2).trans hk3).trans hk4).trans hk5).trans hk6).trans hk7).trans hk8).trans hk9).step hx10 zq18)).step hxz zq25).step hq4 zq25⟩
     ·rintro w9 hx9
      have hx9' := hx9.size
      have hN : idxP xs = none := by rw [hE2]; exact idx_g hz1
      refine X.unw_defer Zc91 (fun h => by cases h) (rcaught_1 _ _ _ ((hB3.keep ((((hk4.trans hk5).trans hk6).trans hk7).trans hk8)).ext hx9 zq5)) ?_
      rintro m wz ⟨rfl, hBz, hxz⟩
      have hxz' := hxz.size
      show X.Unw _ _ _ FrameMode.returning _ _ _ _
      refine X.unw_defer Zc90 (fun h => by cases h) (X.DCall.of_ret (zeroI1_c _ _ _ _ _ _ hBz (((hB1.keep ((((((hk2.trans hk3).trans hk4).trans hk5).trans hk6).trans hk7).trans hk8)).ext hx9 zq5).ext hxz zq35) (((hB2.keep (((((hk3.trans hk4).trans hk5).trans hk6).trans hk7).trans hk8)).ext hx9 zq5).ext hxz zq35) Zz Zz Zz)) ?_
      rintro m wq ⟨rfl, vq, hq1, hq2, hq3, hq4⟩
      show X.Unw _ _ _ FrameMode.returning _ _ _ _
      refine X.unwR3 Zf41 Zr41 (X.ResOk.cell rfl (X.lv1 Zi54 hq2 rfl)) (X.ResOk.cell rfl (X.lv1 Zi3 hq3 rfl)) (X.ResOk.cell rfl (X.lv1 Zi27 hq1 rfl)) ?_
      rw [hN]
      exact ⟨rfl, ((((((((((hk1.trans hk2).trans hk3).trans hk4).trans hk5).trans hk6).trans hk7).trans hk8).step hx9 zq18)).step hxz zq25).step hq4 zq25⟩
    ·rintro w8 hx8
     have hx8' := hx8.size
     have hN : idxP xs = none := by rw [hE1]; subst hsl; exact idx_e Zz (okE_n hb8)
     refine X.unw_defer Zc91 (fun h => by cases h) (rcaught_1 _ _ _ ((hB3.keep (((hk4.trans hk5).trans hk6).trans hk7)).ext hx8 zq5)) ?_
     rintro m wz ⟨rfl, hBz, hxz⟩
     have hxz' := hxz.size
     show X.Unw _ _ _ FrameMode.returning _ _ _ _
     refine X.unw_defer Zc90 (fun h => by cases h) (X.DCall.of_ret (zeroI1_c _ _ _ _ _ _ hBz (((hB1.keep (((((hk2.trans hk3).trans hk4).trans hk5).trans hk6).trans hk7)).ext hx8 zq5).ext hxz zq35) (((hB2.keep ((((hk3.trans hk4).trans hk5).trans hk6).trans hk7)).ext hx8 zq5).ext hxz zq35) Zz Zz Zz)) ?_
     rintro m wq ⟨rfl, vq, hq1, hq2, hq3, hq4⟩
     show X.Unw _ _ _ FrameMode.returning _ _ _ _
     refine X.unwR3 Zf41 Zr41 (X.ResOk.cell rfl (X.lv1 Zi54 hq2 rfl)) (X.ResOk.cell rfl (X.lv1 Zi3 hq3 rfl)) (X.ResOk.cell rfl (X.lv1 Zi27 hq1 rfl)) ?_
     rw [hN]
     exact ⟨rfl, (((((((((hk1.trans hk2).trans hk3).trans hk4).trans hk5).trans hk6).trans hk7).step hx8 zq18)).step hxz zq25).step hq4 zq25⟩
  ·rintro w5 hx5
   have hx5' := hx5.size
   have hN : idxP xs = none := by subst hsl; exact idx_b Zz (okE_n hb5)
   refine X.unw_defer Zc91 (fun h => by cases h) (rcaught_1 _ _ _ ((hB3.keep hk4).ext hx5 zq5)) ?_
   rintro m wz ⟨rfl, hBz, hxz⟩
   have hxz' := hxz.size
   show X.Unw _ _ _ FrameMode.returning _ _ _ _
   refine X.unw_defer Zc90 (fun h => by cases h) (X.DCall.of_ret (zeroI1_c _ _ _ _ _ _ hBz (((hB1.keep ((hk2.trans hk3).trans hk4)).ext hx5 zq5).ext hxz zq35) (((hB2.keep (hk3.trans hk4)).ext hx5 zq5).ext hxz zq35) Zz Zz Zz)) ?_
   rintro m wq ⟨rfl, vq, hq1, hq2, hq3, hq4⟩
   show X.Unw _ _ _ FrameMode.returning _ _ _ _
   refine X.unwR3 Zf41 Zr41 (X.ResOk.cell rfl (X.lv1 Zi54 hq2 rfl)) (X.ResOk.cell rfl (X.lv1 Zi3 hq3 rfl)) (X.ResOk.cell rfl (X.lv1 Zi27 hq1 rfl)) ?_
   rw [hN]
   exact ⟨rfl, ((((((hk1.trans hk2).trans hk3).trans hk4).step hx5 zq18)).step hxz zq25).step hq4 zq25⟩
def NdCt : Nd CT CD where
  K := KCt
  flat := KCt_flat
  R := fun TB w x q => x.2 = q.2 ∧ okI q.2 ∧ x.1.2.1 ≤ x.1.2.2 ∧ ∃ lo hi, (∀ k, lo ≤ k → k < hi → TB k) ∧ Sl KV lo hi w x.1.1 x.1.2.1 q.1
  ext := fun ⟨h1, h2, h3, lo, hi, h4, h5⟩ y hU => ⟨h1, h2, h3, lo, hi, h4, h5.ext y fun k a b => hU k (h4 k a b)⟩
  mono := fun ⟨h1, h2, h3, lo, hi, h4, h5⟩ hT => ⟨h1, h2, h3, lo, hi, fun k a b => hT k (h4 k a b), h5⟩
theorem kv_tight {lo hi lo' hi' : Nat} {w : World} {A : Option Addr} {n : Nat} {l : List VAL} (h : Sl KV lo hi w A n l) (hT : ∀ k, lo ≤ k → k < hi → lo' ≤ k ∧ k < hi') : Sl KV lo' hi' w A n l := by
  refine ⟨h.len, h.bound, fun hn => ?_⟩
  obtain ⟨ad, e, a1, a2, a3⟩ := h.at_ hn
  have hb := hT _ a1 a2
  exact ⟨ad, e, hb.1, hb.2, fun j y hy => by
    obtain ⟨cs, hr, hcc⟩ := a3 j y hy
    exact ⟨cs, KV_flat hr, hcc⟩⟩
theorem nrow_kc {tb base m : Nat} {S G : Nat → Prop} {w : World} {v : Value} {L : List CT} {l : List CD} (h : NRow NdCt tb base m S G w v L l) : ∃ A c, v = .slice A l.length c ∧ l.length ≤ c ∧ Sl KC base w.heap.size w A l.length l := by
  obtain ⟨A, c, e, hc, hs⟩ := h.rd
  refine ⟨A, c, e, hc, hd_kc (hs.wide (Nat.le_refl _) h.l1) ⟨h.d.1, fun i x hx => ?_⟩⟩
  obtain ⟨q, h1, h2, h3, h4, lo, hi, h5, h6⟩ := h.d.2 i x hx
  exact ⟨q, h1, h2, h3, h4, kv_tight h6 fun k a b => by have := h.g k (h5 k a b); omega⟩
def ents : Nat → List UInt8 → Option (List CD)
  | 0, x => if x = [] then some [] else none
  | k + 1, x => match pCnt x with
    | none => none
    | some (q, x1) => (ents k x1).map (q :: ·)
def pgF (t : List VAL) (o : Option (List CD)) : Option (List CD) := o.bind fun p => if p ≠ [] ∧ isR p = true ∧ cmpT (headT p) t = 0 then some p else none
def pgP (b : List UInt8) (t : List VAL) : Option (List CD) := if (openC b).1 ≠ 0 then none else match pNum 0 0 (openC b).2 with
  | none => none
  | some z => pgF t (ents z.1 z.2)
section
variable {b : List UInt8} {t : List VAL}
theorem pg_a (h : (openC b).1 ≠ 0) : pgP b t = none := if_pos h
theorem pg_b (h : (openC b).1 = 0) (h2 : pNum 0 0 (openC b).2 = none) : pgP b t = none := by rw [pgP, if_neg (by simp [h]), h2]
theorem pg_c {z : Nat × List UInt8} (h : (openC b).1 = 0) (h2 : pNum 0 0 (openC b).2 = some z) : pgP b t = pgF t (ents z.1 z.2) := by rw [pgP, if_neg (by simp [h]), h2]
theorem ents_a {k : Nat} {x : List UInt8} (h : pCnt x = none) : ents (k + 1) x = none := by rw [ents, h]
theorem ents_b {k : Nat} {x : List UInt8} {y : CD × List UInt8} (h : pCnt x = some y) : ents (k + 1) x = (ents k y.2).map (y.1 :: ·) := by obtain ⟨q, x1⟩ := y; rw [ents, h]
theorem pgF_T {l : List CD} (h1 : l ≠ []) (h2 : isR l = true) (h3 : cmpT (headT l) t = 0) : pgF t (some l) = some l := by show (if _ then _ else _) = _; rw [if_pos ⟨h1, h2, h3⟩]
theorem pgF_F {l : List CD} (h : ¬ (l ≠ [] ∧ isR l = true ∧ cmpT (headT l) t = 0)) : pgF t (some l) = none := by show (if _ then _ else _) = _; rw [if_neg h]
theorem emap_nil {o : Option (List CD)} : o = o.map (([] : List CD) ++ ·) := by cases o <;> rfl
theorem emap_snoc {o : Option (List CD)} {l : List CD} {q : CD} : ((o.map (q :: ·)).map (l ++ ·)) = o.map ((l ++ [q]) ++ ·) := by cases o <;> simp
end
theorem zeroP0_c (be bx : Nat) (w : World) (hE : Blk w be [.int .i64 0] 27) : Ret Tryz.prog 97 #[.pointer (some ⟨be, 0, none⟩), .pointer (some ⟨bx, 0, none⟩)] w fun _ w' => w' = w := by
 refine X.enter Zf97 rfl Tryz.ntmps97 rfl<|Zs<|Zr<|Zo (X.load1B Zi27 hE rfl rfl) rfl<|X.opP X.wN rfl rfl (X.neI rfl rfl) (fun h3 => ?_) (fun h3 => ?_)
 ·exact absurd rfl h3
 ·refine Ze<|Zf rfl<|Zk<|X.end0 Zf97 Tryz.results97 ?_
  rfl
theorem zeroP1_c (be bx : Nat) (x : Value) (w : World) (hE : Blk w be [.int .i64 71] 27) (hX : Blk w bx [x] 22) (h1 : bx ≠ be) : Ret Tryz.prog 97 #[.pointer (some ⟨be, 0, none⟩), .pointer (some ⟨bx, 0, none⟩)] w
    fun _ w' => Blk w' be [.int .i64 71] 27 ∧ Blk w' bx [.slice none 0 0] 22 ∧ Ext (fun k => k = bx) w w' := by
 refine X.enter Zf97 rfl Tryz.ntmps97 rfl<|Zs<|Zr<|Zo (X.load1B Zi27 hE rfl rfl) rfl<|X.opP X.wN rfl rfl (X.neI rfl rfl) (fun h3 => ?_) (fun h3 => ?_)
 ·refine Ze<|Zt rfl<|Zr<|Zc (X.storeE Zs22 hX rfl rfl rfl rfl) rfl ?_
  rintro _ w1 ⟨hB1, hx1, hz1⟩
  refine Ze<|X.end0 Zf97 Tryz.results97 ?_
  exact ⟨(hE.ext hx1 zq36), hB1, (Ext.andThen (Ext.refl (fun k => k = bx) _) hx1 zq31)⟩
 ·exact absurd (by decide) h3
theorem page_c {lo hi lo1 hi1 : Nat} {A A1 : Option Addr} {n c n1 c1 : Nat} {xs : List UInt8} {t : List VAL} (w : World) (hs : Sl KB lo hi w A n xs) (hhi : hi ≤ w.heap.size) (hnc : n ≤ c) (hn : n ≤ 1000000) (ht : Sl KV lo1 hi1 w A1 n1 t) (hh1 : hi1 ≤ w.heap.size) (hTb : TabOk w) : Ret Tryz.prog 43 #[.slice A n c, .slice A1 n1 c1] w fun r w' => (match pgP xs t with
    | some l => ∃ v L m S G, r = .tuple #[v, .int .i64 0] ∧ NRow NdCt 40 w.heap.size m S G w' v L l
    | none => r = .tuple #[.slice none 0 0, .int .i64 71]) ∧ Keep w w' := by
 have hsl := hs.len
 have htl := hTb.lt
 refine X.enter Zf43 rfl Tryz.ntmps43 rfl<|Zs<|Zr<|Zc (X.allocE Tryz.zeroValue22 rfl) rfl ?_
 rintro _ w1 ⟨rfl, hB1, hk1, hz1⟩
 refine Zc (X.allocE Tryz.zeroValue27 rfl) rfl ?_
 rintro _ w2 ⟨rfl, hB2, hk2, hz2⟩
 refine Ze<|Zs<|Zr<|Zo (X.mkFunc rfl) rfl<|X.opDefer X.wN rfl rfl<|Ze<|Zs<|Zr<|X.opDefer X.wN rfl rfl<|Ze<|Zs<|Zr<|Zoms rfl rfl<|Zc (X.callE (Open_c _ (hs.keep (hk1.trans hk2)) Zz Zz (hTb.keep (hk1.trans hk2))) Zc92 rfl rfl) rfl ?_
 rintro _ w3 ⟨v3, rfl, hF3⟩
 obtain ⟨Ao, co, rfl, hco, hso, hk3⟩ := open_sl hF3
 have hk3' := hk3.size
 refine Zom rfl rfl<|Zo (X.extr rfl rfl) rfl<|Zo (X.extr rfl rfl) rfl<|Zoas rfl rfl<|Zoai rfl rfl<|Ze<|Zs<|Zr<|Zomi rfl rfl<|X.opPR (must_c _ _) X.wN rfl Zc93 rfl (fun b4 hb4 => ?_) (fun hb4 => ?_)
 ·rintro _ w4 ⟨rfl, hk4⟩
  have hk4' := hk4.size
  have ho1 := okE_s hb4
  obtain ⟨g1, g2⟩ := open_len ho1
  have hx0 : (openC xs).2.length ≤ 1000000 := by rw [g2, List.length_take]; omega
  refine Ze<|Zs<|Zr<|Zoms rfl rfl<|X.opPR (rnum_c _ (hso.keep hk4) Zz Zz Zz) X.wN rfl Zc94 rfl (fun z1 hz1 => ?_) (fun hz1 => ?_)
  ·rintro _ w5 ⟨An1, cn1, rfl, hnc1, _, hnl1, hsn1, hk5⟩
   have hk5' := hk5.size
   obtain ⟨pre1, _, hp1⟩ := pNum_suf hz1
   have hq1 := congrArg List.length hp1
   rw [List.length_append] at hq1
   refine Zom rfl rfl<|Zo (X.extr rfl rfl) rfl<|Zo (X.extr rfl rfl) rfl<|Zoau rfl rfl<|Zoas rfl rfl<|Ze<|Zs<|Zs<|Zr<|Zomu rfl rfl<|Zom rfl rfl<|Ze<|Zb ?_
   have hE1 : pgP xs t = pgF t (ents z1.1 z1.2) := pg_c ho1 hz1
   refine X.loopL (σ := Nat × Value × Option Addr × Nat × Nat × List UInt8) (fun s => [(1, .slice A1 n1 c1), (4, .pointer (some ⟨w.heap.size, 0, none⟩)), (5, .pointer (some ⟨w1.heap.size, 0, none⟩)), (6, .slice s.2.2.1 s.2.2.2.1 s.2.2.2.2.1), (25, .int .u64 ((z1.1 : Nat) : Int)), (26, .int .u64 (s.1 : Int))]) (fun s w' => s.1 ≤ z1.1 ∧ Keep w w' ∧ Blk w' w.heap.size [s.2.1] 22 ∧ Blk w' w1.heap.size [.int .i64 0] 27 ∧ s.2.2.2.1 = s.2.2.2.2.2.length ∧ s.2.2.2.1 ≤ s.2.2.2.2.1 ∧ w5.heap.size ≤ w'.heap.size ∧ ∃ lo9 hi9, Sl KB lo9 hi9 w' s.2.2.1 s.2.2.2.1 s.2.2.2.2.2 ∧ w2.heap.size ≤ lo9 ∧ hi9 ≤ w5.heap.size ∧ ∃ L l S G, NRow NdCt 40 w5.heap.size w'.heap.size S G w' s.2.1 L l ∧ l.length + s.2.2.2.1 ≤ 1000000 ∧ pgP xs t = pgF t ((ents (z1.1 - s.1) s.2.2.2.2.2).map (l ++ ·))) (fun s => z1.1 - s.1) (0, .slice none 0 0, An1, z1.2.length, cn1, z1.2) ⟨rfl, rfl, rfl, rfl, rfl, rfl, trivial⟩ ⟨Nat.zero_le _, ((((hk1.trans hk2).trans hk3).trans hk4).trans hk5), (hB1.keep (((hk2.trans hk3).trans hk4).trans hk5)), (hB2.keep ((hk3.trans hk4).trans hk5)), rfl, hnc1, by (try dsimp only); omega, _, _, hsn1, by omega, by omega, [], [], _, _, NRow.nil _ _ _ _ (Nat.le_refl _), by (try dsimp only); simp; omega, by (try dsimp only); rw [hE1, Nat.sub_zero, ← emap_nil]⟩ ?_
   rintro ⟨i, v, A6, n6, c6, x6⟩ b w1 ⟨hi0, hk, hB4, hB5, h6l, h6c, hbs, lo9, hi9, hs6, hlo9, hhi9, L, l, S, G, hNR, hll, hE⟩ hback
   dsimp only
   dsimp only at hi0 hB4 h6l h6c hs6 hNR hll hE
   have hk0 := hk.size
   obtain ⟨Av, cv, rfl, hcv, hsv⟩ := hNR.rd
   refine Zs<|Zr<|X.opP X.wN rfl rfl (X.lss rfl rfl) (fun h27 => ?_) (fun h27 => ?_)
   ·obtain ⟨k, hki⟩ : ∃ k, z1.1 - i = k + 1 := ⟨z1.1 - i - 1, by omega⟩
    refine Ze<|Zs<|Zt rfl<|Zk<|Zs<|Zb<|Zs<|Zr<|Zoms rfl rfl<|Zc (X.callE (TakeCounted_c _ (hs6.wide (Nat.zero_le _) Zz) Zz Zz) Tryz.call98 rfl rfl) rfl ?_
    rintro _ w6 ⟨vk, rfl, hMk, hk6⟩
    obtain ⟨Ak, ck, rfl, hck, hsk⟩ := mineKV_sl hMk
    have hk6' := hk6.size
    refine Zom rfl rfl<|Zo (X.extr rfl rfl) rfl<|Zo (X.extr rfl rfl) rfl<|Zo (X.extr rfl rfl) rfl<|Zc (X.allocE Zv40 rfl) rfl ?_
    rintro _ w7 ⟨rfl, hB7, hk7, hz7⟩
    refine Zc (X.storeNE Zs40 hB7 rfl rfl rfl rfl (fun u hu => by simp at hu; rcases hu with rfl | rfl <;> rfl)) rfl ?_
    rintro _ w8 ⟨hB8, hx8, hz8⟩
    refine Zoai rfl rfl<|Zoai rfl rfl<|Ze<|Zs<|Zr<|Zomi rfl rfl<|X.opPR (must_c _ _) X.wN rfl Zc93 rfl (fun b9 hb9 => ?_) (fun hb9 => ?_)
    ·rintro _ w9 ⟨rfl, hk9⟩
     have hk9' := hk9.size
     obtain ⟨y, hy⟩ := okE_some hb9
     obtain ⟨hxy, hyT, hyV, hyI⟩ := pCnt_just hy
     have hyl : y.2.length ≤ x6.length := by rw [hxy, List.length_append]; omega
     have hyp : y.2.length < x6.length := by rw [hxy, List.length_append]; simp only [cntB, tupB, List.length_append, List.length_cons]; omega
     have hcn : cnt (pCnt x6) n6 = ((n6 - y.2.length : Nat) : Int) := by rw [hy]; show (n6 : Int) - (y.2.length : Int) = _; omega
     have htd : told (pCnt x6) ([], 0) = y.1 := by rw [hy]; rfl
     have hskt := sl_cast hsk (congrArg Prod.fst htd)
     refine Ze<|X.regionD (fun k => (w5.heap.size ≤ k ∧ k < w1.heap.size) ∨ k = w.heap.size) 8 Zl Zl (fun w10 hk10 hz10 => ?_)
     refine ZD 1 rfl Zl (fun w' hk' => X.loadNB Tryz.isAgg40 Zs40 ((hB8.keep (hk9.trans hk10)).ext hk' zq2) rfl rfl rfl) ?_
     refine ZDc 4 rfl Zl (Zdms rfl)<|ZDc 5 rfl Zl (Zdmi rfl) ?_
     have hsd := ((hs6.keep ((((hk6.trans hk7).step hx8 zq26).trans hk9).trans hk10))).drop (cnt (pCnt x6) n6).toNat c6 Zz Zz
     rw [show x6.drop (cnt (pCnt x6) n6).toNat = y.2 by rw [hcn, Int.toNat_natCast, h6l]; exact suf_drop hxy] at hsd
     refine ZDc 6 rfl Zl (X.cutL (m := cnt (pCnt x6) n6) Zu43 Zs5 rfl rfl ⟨by omega, by omega⟩) ?_
     refine X.dTwo (i := 0) (j := 2) Zl ?_ ?_
     ·refine X.d1Step (i := 0) rfl (X.dwN rfl) (X.load1B Zi22 (hB4.keep ((((hk6.trans hk7).step hx8 zq26).trans hk9).trans hk10)) rfl rfl) (fun _ => Ext.refl _ _) ?_
      refine X.dE (i := 2) Zl rfl (X.dwN rfl) (X.litKF KCt_flat (K := KCt) (xs := [Operand.tmp 37]) (vs := [evC ((Ak, (told (pCnt x6) ([], 0)).1.length, ck), (told (pCnt x6) ([], 0)).2)]) (ys := [((Ak, (told (pCnt x6) ([], 0)).1.length, ck), (told (pCnt x6) ([], 0)).2)]) Zu22 Zs40 Zv40 rfl rfl rfl rfl rfl (repsC _)) (by rintro _ w11 ⟨rfl, hs11, hB11, hk11, hz11⟩ _; exact hk11.mono (fun _ _ h => h.elim)) ?_
      rintro _ w11 ⟨rfl, hs11, hB11, hk11, hz11⟩
      refine X.dE (i := 3) Zl rfl (X.dwN rfl) (NRow.app (y := ((Ak, (told (pCnt x6) ([], 0)).1.length, ck), (told (pCnt x6) ([], 0)).2)) (q := y.1) (hNR.keep (((((hk6.trans hk7).step hx8 zq26).trans hk9).trans hk10).trans hk11)) hs11 ⟨congrArg Prod.snd htd, hyI, hck, _, _, fun _ h1 h2 => ⟨h1, h2⟩, (hskt.keep ((((hk7.step hx8 zq26).trans hk9).trans hk10).trans hk11))⟩ Zz Zz Zz Zu22 ECt rfl rfl Zz) (by rintro _ w12 ⟨Aq, cq, S', G', rfl, hNn, hx12⟩ _; exact hx12.mono (fun k _ h => by (try simp only [] at *); omega)) ?_
      rintro _ w12 ⟨Aq, cq, S', G', rfl, hNn, hx12⟩
      have hx12' := hx12.size
      refine X.dE (i := 7) Zl rfl (X.dwN rfl) (X.storeE Zs22 ((hB4.keep (((((hk6.trans hk7).step hx8 zq26).trans hk9).trans hk10).trans hk11)).ext hx12 zq2) rfl rfl rfl rfl) (by rintro _ w13 ⟨hB13, hx13, hz13⟩ _; exact hx13.mono (fun k _ h => by (try simp only [] at *); omega)) ?_
      rintro _ w13 ⟨hB13, hx13, hz13⟩
      refine X.dStep (i := 8) Zl rfl (X.dwN rfl) (X.assign rfl) (fun h => absurd h (by decide))<|Zdend Zl<|Zi<|Zr<|Zo (X.add (c := ((i + 1 : Nat) : Int)) rfl rfl (by rw [X.w_u64 Zz]; omega)) rfl ?_
      refine Zomu rfl rfl<|Ze ?_
      refine hback (i + 1, .slice Aq (l ++ [y.1]).length cq, _, _, _, y.2) _ _ ⟨rfl, rfl, rfl, rfl, rfl, rfl, trivial⟩ ⟨by (try dsimp only); omega, ((((((((hk.trans hk6).trans hk7).step hx8 zq26).trans hk9).trans hk10).trans hk11).step hx12 zq26).step hx13 zq26), hB13, (((hB5.keep (((((hk6.trans hk7).step hx8 zq26).trans hk9).trans hk10).trans hk11)).ext hx12 zq2).ext hx13 zq2), ?_, ?_, by (try dsimp only); omega, _, _, (((hsd.keep hk11).ext hx12 zq2).ext hx13 zq2), hlo9, hhi9, L ++ [_], l ++ [y.1], S', G', ((hNn.ext hx13 zq2)).all, ?_, ?_⟩ ?_
      ·(try dsimp only); rw [hcn, Int.toNat_natCast]; omega
      ·(try dsimp only); rw [hcn, Int.toNat_natCast]; omega
      ·(try dsimp only); rw [List.length_append, List.length_singleton, hcn, Int.toNat_natCast]; omega
      ·(try dsimp only); rw [hE, hki, ents_b hy, emap_snoc, show z1.1 - (i + 1) = k by omega]
      ·(try dsimp only); omega
     ·refine X.d1E (i := 2) rfl (X.dwN rfl) (X.litKF KCt_flat (K := KCt) (xs := [Operand.tmp 37]) (vs := [evC ((Ak, (told (pCnt x6) ([], 0)).1.length, ck), (told (pCnt x6) ([], 0)).2)]) (ys := [((Ak, (told (pCnt x6) ([], 0)).1.length, ck), (told (pCnt x6) ([], 0)).2)]) Zu22 Zs40 Zv40 rfl rfl rfl rfl rfl (repsC _)) (by rintro _ w14 ⟨rfl, hs14, hB14, hk14, hz14⟩ _; exact hk14.mono (fun _ _ h => h.elim)) ?_
      rintro _ w14 ⟨rfl, hs14, hB14, hk14, hz14⟩
      refine X.dStep (i := 0) Zl rfl (X.dwN rfl) (X.load1B Zi22 (hB4.keep (((((hk6.trans hk7).step hx8 zq26).trans hk9).trans hk10).trans hk14)) rfl rfl) (fun _ => Ext.refl _ _) ?_
      refine X.dE (i := 3) Zl rfl (X.dwN rfl) (NRow.app (y := ((Ak, (told (pCnt x6) ([], 0)).1.length, ck), (told (pCnt x6) ([], 0)).2)) (q := y.1) (hNR.keep (((((hk6.trans hk7).step hx8 zq26).trans hk9).trans hk10).trans hk14)) hs14 ⟨congrArg Prod.snd htd, hyI, hck, _, _, fun _ h1 h2 => ⟨h1, h2⟩, (hskt.keep ((((hk7.step hx8 zq26).trans hk9).trans hk10).trans hk14))⟩ Zz Zz Zz Zu22 ECt rfl rfl Zz) (by rintro _ w15 ⟨Aq, cq, S', G', rfl, hNn, hx15⟩ _; exact hx15.mono (fun k _ h => by (try simp only [] at *); omega)) ?_
      rintro _ w15 ⟨Aq, cq, S', G', rfl, hNn, hx15⟩
      have hx15' := hx15.size
      refine X.dE (i := 7) Zl rfl (X.dwN rfl) (X.storeE Zs22 ((hB4.keep (((((hk6.trans hk7).step hx8 zq26).trans hk9).trans hk10).trans hk14)).ext hx15 zq2) rfl rfl rfl rfl) (by rintro _ w16 ⟨hB16, hx16, hz16⟩ _; exact hx16.mono (fun k _ h => by (try simp only [] at *); omega)) ?_
      rintro _ w16 ⟨hB16, hx16, hz16⟩
      refine X.dStep (i := 8) Zl rfl (X.dwN rfl) (X.assign rfl) (fun h => absurd h (by decide))<|Zdend Zl<|Zi<|Zr<|Zo (X.add (c := ((i + 1 : Nat) : Int)) rfl rfl (by rw [X.w_u64 Zz]; omega)) rfl ?_
      refine Zomu rfl rfl<|Ze ?_
      refine hback (i + 1, .slice Aq (l ++ [y.1]).length cq, _, _, _, y.2) _ _ ⟨rfl, rfl, rfl, rfl, rfl, rfl, trivial⟩ ⟨by (try dsimp only); omega, ((((((((hk.trans hk6).trans hk7).step hx8 zq26).trans hk9).trans hk10).trans hk14).step hx15 zq26).step hx16 zq26), hB16, (((hB5.keep (((((hk6.trans hk7).step hx8 zq26).trans hk9).trans hk10).trans hk14)).ext hx15 zq2).ext hx16 zq2), ?_, ?_, by (try dsimp only); omega, _, _, (((hsd.keep hk14).ext hx15 zq2).ext hx16 zq2), hlo9, hhi9, L ++ [_], l ++ [y.1], S', G', ((hNn.ext hx16 zq2)).all, ?_, ?_⟩ ?_
      ·(try dsimp only); rw [hcn, Int.toNat_natCast]; omega
      ·(try dsimp only); rw [hcn, Int.toNat_natCast]; omega
      ·(try dsimp only); rw [List.length_append, List.length_singleton, hcn, Int.toNat_natCast]; omega
      ·(try dsimp only); rw [hE, hki, ents_b hy, emap_snoc, show z1.1 - (i + 1) = k by omega]
      ·(try dsimp only); omega
    ·rintro w9 hx9
     have hx9' := hx9.size
     have hN : pgP xs t = none := by rw [hE, hki, ents_a (okE_none hb9)]; rfl
     refine X.unw_defer Zc91 (fun h => by cases h) (rcaught_1 _ _ _ ((hB5.keep ((hk6.trans hk7).step hx8 zq26)).ext hx9 zq2)) ?_
     rintro m wz ⟨rfl, hBz, hxz⟩
     have hxz' := hxz.size
     show X.Unw _ _ _ FrameMode.returning _ _ _ _
     refine X.unw_defer Zc97 (fun h => by cases h) (X.DCall.of_ret (zeroP1_c _ _ _ _ hBz (((hB4.keep ((hk6.trans hk7).step hx8 zq26)).ext hx9 zq2).ext hxz zq35) Zz)) ?_
     rintro m wq ⟨rfl, vq, hq1, hq2, hq4⟩
     show X.Unw _ _ _ FrameMode.returning _ _ _ _
     refine X.unwR2 Zf43 Zr43 (X.ResOk.cell rfl (X.lv1 Zi22 hq2 rfl)) (X.ResOk.cell rfl (X.lv1 Zi27 hq1 rfl)) ?_
     rw [hN]
     exact ⟨rfl, ((((((hk.trans hk6).trans hk7).step hx8 zq26).step hx9 zq26)).step hxz zq28).step hq4 zq28⟩
   ·refine Ze<|Zs<|Zf rfl<|Zx rfl<|Zs<|Zs<|Zr<|Zoms rfl rfl<|Zo (X.lenSl Zu43 rfl) rfl<|X.opP X.wN rfl rfl (X.gtr rfl rfl) (fun h46 => ?_) (fun h46 => ?_)
    ·
     refine Zomt rfl rfl<|Zp rfl rfl rfl<|Zp rfl rfl rfl<|Zp rfl rfl rfl<|Zo (ZdTt rfl rfl) rfl<|Zomt rfl rfl<|Zp rfl rfl rfl<|Zp rfl rfl rfl<|Zp rfl rfl rfl<|Zo (ZdTt rfl rfl) rfl<|Zomt rfl rfl<|Zp rfl rfl rfl<|Zp rfl rfl rfl<|Zp rfl rfl rfl<|Zp rfl rfl rfl<|Zp rfl rfl rfl<|Zp rfl rfl rfl<|Zp rfl rfl rfl<|Zo (ZdTt rfl rfl) rfl<|Ze<|Zt rfl<|Zr<|Zo (X.buildB (vs := []) (cs := #[]) rfl Zl) rfl<|Zo (X.mkIface Zu166 rfl rfl) rfl<|X.opPanic X.wN rfl ?_
     have hN : pgP xs t = none := by
       rw [hE, show z1.1 - i = 0 by omega, ents, if_neg (fun h => by rw [h] at h6l; simp at h6l; omega)]; rfl
     refine X.unw_defer Zc91 (fun h => by cases h) (rcaught_1 _ _ _ hB5) ?_
     rintro m wz ⟨rfl, hBz, hxz⟩
     have hxz' := hxz.size
     show X.Unw _ _ _ FrameMode.returning _ _ _ _
     refine X.unw_defer Zc97 (fun h => by cases h) (X.DCall.of_ret (zeroP1_c _ _ _ _ hBz (hB4.ext hxz zq35) Zz)) ?_
     rintro m wq ⟨rfl, vq, hq1, hq2, hq4⟩
     show X.Unw _ _ _ FrameMode.returning _ _ _ _
     refine X.unwR2 Zf43 Zr43 (X.ResOk.cell rfl (X.lv1 Zi22 hq2 rfl)) (X.ResOk.cell rfl (X.lv1 Zi27 hq1 rfl)) ?_
     rw [hN]
     exact ⟨rfl, ((hk).step hxz zq28).step hq4 zq28⟩
    ·have hx60 : x6 = [] := List.eq_nil_of_length_eq_zero Zz
     have hfin : (ents (z1.1 - i) x6).map (l ++ ·) = some l := by rw [show z1.1 - i = 0 by omega, ents, if_pos hx60]; simp
     refine Zomf rfl rfl<|Zg (X.load1B Zi22 hB4 rfl rfl) rfl rfl rfl rfl<|Zg (X.lenSl Zu22 rfl) rfl rfl rfl rfl<|X.opP (X.wG rfl rfl rfl) rfl rfl (X.eqI rfl rfl) (fun h50 => ?_) (fun h50 => ?_)
     ·
      refine Zo (ZdFt rfl rfl) rfl<|Zomt rfl rfl<|Zp rfl rfl rfl<|Zp rfl rfl rfl<|Zp rfl rfl rfl<|Zo (ZdTt rfl rfl) rfl<|Zomt rfl rfl<|Zp rfl rfl rfl<|Zp rfl rfl rfl<|Zp rfl rfl rfl<|Zp rfl rfl rfl<|Zp rfl rfl rfl<|Zp rfl rfl rfl<|Zp rfl rfl rfl<|Zo (ZdTt rfl rfl) rfl<|Ze<|Zt rfl<|Zr<|Zo (X.buildB (vs := []) (cs := #[]) rfl Zl) rfl<|Zo (X.mkIface Zu166 rfl rfl) rfl<|X.opPanic X.wN rfl ?_
      have hN : pgP xs t = none := by
        rw [hE, hfin]; exact pgF_F (fun h => h.1 (List.eq_nil_of_length_eq_zero Zz))
      refine X.unw_defer Zc91 (fun h => by cases h) (rcaught_1 _ _ _ hB5) ?_
      rintro m wz ⟨rfl, hBz, hxz⟩
      have hxz' := hxz.size
      show X.Unw _ _ _ FrameMode.returning _ _ _ _
      refine X.unw_defer Zc97 (fun h => by cases h) (X.DCall.of_ret (zeroP1_c _ _ _ _ hBz (hB4.ext hxz zq35) Zz)) ?_
      rintro m wq ⟨rfl, vq, hq1, hq2, hq4⟩
      show X.Unw _ _ _ FrameMode.returning _ _ _ _
      refine X.unwR2 Zf43 Zr43 (X.ResOk.cell rfl (X.lv1 Zi22 hq2 rfl)) (X.ResOk.cell rfl (X.lv1 Zi27 hq1 rfl)) ?_
      rw [hN]
      exact ⟨rfl, ((hk).step hxz zq28).step hq4 zq28⟩
     ·have hne : l ≠ [] := fun h => by rw [h] at h50; simp at h50
      have hnp := List.length_pos_iff.2 hne
      obtain ⟨Av', cv', ev, hcv', hkc⟩ := nrow_kc hNR
      injection ev with ev1 ev2 ev3
      subst ev1 ev3
      obtain ⟨x0, hx0'⟩ : ∃ x0, L[0]? = some x0 := ⟨_, List.getElem?_eq_getElem (by rw [hNR.d.1]; omega)⟩
      obtain ⟨q0, hq0, _, _, _, loq, hiq, _, hqs⟩ := hNR.d.2 _ _ hx0'
      have hhq := kv_head (x := x0) hq0
      refine Zo (ZdFf rfl rfl) rfl<|Zomf rfl rfl<|Zg (X.load1B Zi22 hB4 rfl rfl) rfl rfl rfl rfl<|X.opE (X.wG rfl rfl rfl) rfl (X.callE (rCheck_c _ hkc Zz) Tryz.call21 rfl rfl) ?_
      rintro _ w17 ⟨rfl, hk17⟩
      have hk17' := hk17.size
      refine X.opP (X.wG rfl rfl rfl) rfl rfl (X.neI rfl rfl) (fun h55 => ?_) (fun h55 => ?_)
      ·
       refine Zo (ZdFt rfl rfl) rfl<|Zomt rfl rfl<|Zp rfl rfl rfl<|Zp rfl rfl rfl<|Zp rfl rfl rfl<|Zp rfl rfl rfl<|Zp rfl rfl rfl<|Zp rfl rfl rfl<|Zp rfl rfl rfl<|Zo (ZdTt rfl rfl) rfl<|Ze<|Zt rfl<|Zr<|Zo (X.buildB (vs := []) (cs := #[]) rfl Zl) rfl<|Zo (X.mkIface Zu166 rfl rfl) rfl<|X.opPanic X.wN rfl ?_
       have hN : pgP xs t = none := by
         rw [hE, hfin]; exact pgF_F (fun h => by rw [h.2.1] at h55; exact absurd rfl h55)
       refine X.unw_defer Zc91 (fun h => by cases h) (rcaught_1 _ _ _ (hB5.keep hk17)) ?_
       rintro m wz ⟨rfl, hBz, hxz⟩
       have hxz' := hxz.size
       show X.Unw _ _ _ FrameMode.returning _ _ _ _
       refine X.unw_defer Zc97 (fun h => by cases h) (X.DCall.of_ret (zeroP1_c _ _ _ _ hBz ((hB4.keep hk17).ext hxz zq35) Zz)) ?_
       rintro m wq ⟨rfl, vq, hq1, hq2, hq4⟩
       show X.Unw _ _ _ FrameMode.returning _ _ _ _
       refine X.unwR2 Zf43 Zr43 (X.ResOk.cell rfl (X.lv1 Zi22 hq2 rfl)) (X.ResOk.cell rfl (X.lv1 Zi27 hq1 rfl)) ?_
       rw [hN]
       exact ⟨rfl, (((hk.trans hk17)).step hxz zq28).step hq4 zq28⟩
      ·have hRt : isR l = true := by
         cases hq : isR l with
         | true => rfl
         | false => rw [hq] at h55; exact absurd (by decide : ¬ (70 : Int) = 0) h55
       refine Zo (ZdFf rfl rfl) rfl<|Zomf rfl rfl<|Zg (X.load1B Zi22 (hB4.keep hk17) rfl rfl) rfl rfl rfl rfl<|Zg (X.idxS (hsv.keep hk17) Zu22 Zs40 rfl rfl ⟨by omega, by omega⟩) rfl rfl rfl rfl<|Zg (X.fldA Tryz.underlying40 rfl rfl Tryz.sizeOf38) rfl rfl rfl rfl<|Zg (X.loadSf (o := 0) Tryz.isAgg38 (hsv.keep hk17) (j := 0) hx0' rfl (fun _ h => by rw [h.1]; rfl)) rfl rfl rfl rfl ?_
       refine Zg (X.move rfl) rfl rfl rfl rfl<|X.opE (X.wG rfl rfl rfl) rfl (X.callE (tupleCompare_c _ (hqs.keep hk17) (ht.keep (hk.trans hk17))) Tryz.call47 rfl rfl) ?_
       rintro _ w18 ⟨rfl, hk18⟩
       have hk18' := hk18.size
       refine X.opP (X.wG rfl rfl rfl) rfl rfl (X.neI rfl rfl) (fun h64 => ?_) (fun h64 => ?_)
       ·
        refine Zo (ZdFt rfl rfl) rfl<|Ze<|Zt rfl<|Zr<|Zo (X.buildB (vs := []) (cs := #[]) rfl Zl) rfl<|Zo (X.mkIface Zu166 rfl rfl) rfl<|X.opPanic X.wN rfl ?_
        have hN : pgP xs t = none := by
          rw [hE, hfin]; exact pgF_F (fun h => h64 (by rw [← hhq]; exact h.2.2))
        refine X.unw_defer Zc91 (fun h => by cases h) (rcaught_1 _ _ _ (hB5.keep (hk17.trans hk18))) ?_
        rintro m wz ⟨rfl, hBz, hxz⟩
        have hxz' := hxz.size
        show X.Unw _ _ _ FrameMode.returning _ _ _ _
        refine X.unw_defer Zc97 (fun h => by cases h) (X.DCall.of_ret (zeroP1_c _ _ _ _ hBz ((hB4.keep (hk17.trans hk18)).ext hxz zq35) Zz)) ?_
        rintro m wq ⟨rfl, vq, hq1, hq2, hq4⟩
        show X.Unw _ _ _ FrameMode.returning _ _ _ _
        refine X.unwR2 Zf43 Zr43 (X.ResOk.cell rfl (X.lv1 Zi22 hq2 rfl)) (X.ResOk.cell rfl (X.lv1 Zi27 hq1 rfl)) ?_
        rw [hN]
        exact ⟨rfl, ((((hk.trans hk17).trans hk18)).step hxz zq28).step hq4 zq28⟩
       ·have hcm : cmpT (headT l) t = 0 := by rw [hhq]; exact Classical.byContradiction h64
        refine Zo (ZdFf rfl rfl) rfl<|Ze<|Zf rfl<|Zk<|Zs<|Zr<|Zo (X.load1B Zi22 (hB4.keep (hk17.trans hk18)) rfl rfl) rfl<|Zc (X.storeE Zs22 (hB4.keep (hk17.trans hk18)) rfl rfl rfl rfl) rfl ?_
        rintro _ w19 ⟨hB19, hx19, hz19⟩
        refine Zc (X.storeE Tryz.sizeOf27 ((hB5.keep (hk17.trans hk18)).ext hx19 zq2) rfl rfl rfl rfl) rfl ?_
        rintro _ w20 ⟨hB20, hx20, hz20⟩
        refine Ze<|X.ret_unw<|X.unw_defer Zc91 (fun h => by cases h) (rcaught_0 _ _) ?_
        rintro m wz ⟨rfl, rfl⟩
        show X.Unw _ _ _ FrameMode.returning _ _ _ _
        refine X.unw_defer Zc97 (fun h => by cases h) (X.DCall.of_ret (zeroP0_c _ _ _ hB20)) ?_
        rintro m wz ⟨rfl, vz, rfl⟩
        show X.Unw _ _ _ FrameMode.returning _ _ _ _
        refine X.unwR2 Zf43 Zr43 (X.ResOk.cell rfl (X.lv1 Zi22 (hB19.ext hx20 zq2) rfl)) (X.ResOk.cell rfl (X.lv1 Zi27 hB20 rfl)) ?_
        rw [hE, hfin, pgF_T hne hRt hcm]
        have hNf := (((hNR.keep (hk17.trans hk18)).ext hx19 zq2).ext hx20 zq2)
        exact ⟨⟨_, L, _, S, G, rfl, hNf.low Zz⟩, ((((hk.trans hk17).trans hk18).step hx19 zq26).step hx20 zq26)⟩
  ·rintro w5 hx5
   have hx5' := hx5.size
   have hN : pgP xs t = none := pg_b ho1 hz1
   refine X.unw_defer Zc91 (fun h => by cases h) (rcaught_1 _ _ _ ((hB2.keep (hk3.trans hk4)).ext hx5 zq2)) ?_
   rintro m wz ⟨rfl, hBz, hxz⟩
   have hxz' := hxz.size
   show X.Unw _ _ _ FrameMode.returning _ _ _ _
   refine X.unw_defer Zc97 (fun h => by cases h) (X.DCall.of_ret (zeroP1_c _ _ _ _ hBz (((hB1.keep ((hk2.trans hk3).trans hk4)).ext hx5 zq2).ext hxz zq35) Zz)) ?_
   rintro m wq ⟨rfl, vq, hq1, hq2, hq4⟩
   show X.Unw _ _ _ FrameMode.returning _ _ _ _
   refine X.unwR2 Zf43 Zr43 (X.ResOk.cell rfl (X.lv1 Zi22 hq2 rfl)) (X.ResOk.cell rfl (X.lv1 Zi27 hq1 rfl)) ?_
   rw [hN]
   exact ⟨rfl, ((((((hk1.trans hk2).trans hk3).trans hk4).step hx5 zq26)).step hxz zq28).step hq4 zq28⟩
 ·rintro w4 hx4
  have hx4' := hx4.size
  have hN : pgP xs t = none := pg_a (okE_n hb4)
  refine X.unw_defer Zc91 (fun h => by cases h) (rcaught_1 _ _ _ ((hB2.keep hk3).ext hx4 zq2)) ?_
  rintro m wz ⟨rfl, hBz, hxz⟩
  have hxz' := hxz.size
  show X.Unw _ _ _ FrameMode.returning _ _ _ _
  refine X.unw_defer Zc97 (fun h => by cases h) (X.DCall.of_ret (zeroP1_c _ _ _ _ hBz (((hB1.keep (hk2.trans hk3)).ext hx4 zq2).ext hxz zq35) Zz)) ?_
  rintro m wq ⟨rfl, vq, hq1, hq2, hq4⟩
  show X.Unw _ _ _ FrameMode.returning _ _ _ _
  refine X.unwR2 Zf43 Zr43 (X.ResOk.cell rfl (X.lv1 Zi22 hq2 rfl)) (X.ResOk.cell rfl (X.lv1 Zi27 hq1 rfl)) ?_
  rw [hN]
  exact ⟨rfl, (((((hk1.trans hk2).trans hk3).step hx4 zq26)).step hxz zq28).step hq4 zq28⟩
end Go.Proofs.YtbljooblpfdbiaaGreatDoor
