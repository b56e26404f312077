/- Texts that the proof of CacheSame stands on, part 11. -/
import Derived.Test.YtjjhddjllpihaaaGreatDoorProg
import Derived.Test.YtjjhddjllpihaaaGreatDoorBunCacheSame10
set_option maxHeartbeats 4000000
set_option maxRecDepth 100000
open Go.Proofs.Tryz renaming func74 → Zf74, func79 → Zf79, isAgg5 → Zi5, results79 → Zr79, sizeOf5 → Zs5, sizeOf81 → Zs81, underlying210 → Zu210, underlying247 → Zu247, underlying5 → Zu5, underlying81 → Zu81
set_option linter.unusedSimpArgs false
set_option linter.unusedVariables false
namespace Go.Proofs.YtjjhddjllpihaaaGreatDoor
open Go Go.Proofs.YtjjhddjllpihaaaGreatDoor.X
theorem four_split {l : List UInt8} {n : Nat} (hl : l.length = n) (h : 4 ≤ n) : ∃ a b c d t, l = a :: b :: c :: d :: t := by
  match l, hl with
  | a :: b :: c :: d :: t, _ => exact ⟨a, b, c, d, t, rfl⟩
  | [], e => simp at e; omega
  | [a], e => simp at e; omega
  | [a, b], e => simp at e; omega
  | [a, b, c], e => simp at e; omega
theorem low_c (r : R32) (w : World) : Ret Tryz.prog 118 #[.int .u32 (r.toNat : Int)] w fun v w' => Fresh KB 5 w w' v (lowC r) := by
 refine X.enter Tryz.func118 rfl Tryz.ntmps118 rfl<|Zs<|Zr<|Zoa rfl rfl<|Ze<|Zs<|Zr<|Zomw rfl rfl<|Zo (X.cvI Zu210 Zu5 rfl (cv32_8 _)) rfl<|Zomw rfl rfl<|Zo (X.shr rfl rfl (by decide) (shr32 _ 8 (by decide))) rfl<|Zo (X.cvI Zu210 Zu5 rfl (cv32_8 _)) rfl<|Zomw rfl rfl<|Zo (X.shr rfl rfl (by decide) (shr32 _ 16 (by decide))) rfl<|Zo (X.cvI Zu210 Zu5 rfl (cv32_8 _)) rfl<|Zomw rfl rfl<|Zo (X.shr rfl rfl (by decide) (shr32 _ 24 (by decide))) rfl<|Zo (X.cvI Zu210 Zu5 rfl (cv32_8 _)) rfl<|Zc (X.litKE (K := KB) (xs := [Operand.tmp 4, Operand.tmp 7, Operand.tmp 10, Operand.tmp 13]) (vs := [.int .u8 ((UInt8.ofNat r.toNat).toNat : Int), .int .u8 ((UInt8.ofNat (r >>> 8).toNat).toNat : Int), .int .u8 ((UInt8.ofNat (r >>> 16).toNat).toNat : Int), .int .u8 ((UInt8.ofNat (r >>> 24).toNat).toNat : Int)]) (ys := [UInt8.ofNat r.toNat, UInt8.ofNat (r >>> 8).toNat, UInt8.ofNat (r >>> 16).toNat, UInt8.ofNat (r >>> 24).toNat]) Zu81 Zs5 Tryz.zeroValue5 rfl rfl rfl rfl rfl (repsB [UInt8.ofNat r.toNat, UInt8.ofNat (r >>> 8).toNat, UInt8.ofNat (r >>> 16).toNat, UInt8.ofNat (r >>> 24).toNat])) rfl ?_
 rintro _ w1 ⟨rfl, hs1, hB1, hk1, hz1⟩
 refine Zoa rfl rfl<|Ze<|X.ret1 Tryz.func118 Tryz.results118 rfl ?_
 exact ⟨(Mine.litV (vs := [.int .u8 ((UInt8.ofNat r.toNat).toNat : Int), .int .u8 ((UInt8.ofNat (r >>> 8).toNat).toNat : Int), .int .u8 ((UInt8.ofNat (r >>> 16).toNat).toNat : Int), .int .u8 ((UInt8.ofNat (r >>> 24).toNat).toNat : Int)]) (w0 := w) KB_flat hB1 (repsB [UInt8.ofNat r.toNat, UInt8.ofNat (r >>> 8).toNat, UInt8.ofNat (r >>> 16).toNat, UInt8.ofNat (r >>> 24).toNat]) rfl Zz zq34), hk1⟩
theorem number_c {lo hi : Nat} {A : Option Addr} {n c : Nat} {l : List UInt8} (w : World) (hs : Sl KB lo hi w A n l) (h4 : 4 ≤ n) : Ret Tryz.prog 122 #[.slice A n c] w fun v w' => v = .int .u32 ((numC l).toNat : Int) ∧ Keep w w' := by
 obtain ⟨x0, x1, x2, x3, t, rfl⟩ := four_split hs.len h4
 refine X.enter Tryz.func122 rfl Tryz.ntmps122 rfl<|Zs<|Zr<|Zoa rfl rfl<|Ze<|Zs<|X.regionD (fun _ => False) 22 Zl Zl (fun w1 hk1 hz1 => ?_)
 refine ZDc 0 rfl Zl (Zdms rfl)<|ZD 1 rfl Zl (fun w' hk' => X.idxS (hs.keep (hk1.trans hk')) Zu81 Zs5 rfl rfl ⟨by omega, by omega⟩)<|ZD 2 rfl Zl (fun w' hk' => X.loadS Zi5 (hs.keep (hk1.trans hk')) (j := 0) rfl rfl (fun _ h => by rw [h.1]; rfl)) ?_
 refine ZDc 3 rfl Zl (X.cvI Zu5 Zu210 rfl (cv8_32 _))<|ZDc 4 rfl Zl (Zdms rfl)<|ZD 5 rfl Zl (fun w' hk' => X.idxS (hs.keep (hk1.trans hk')) Zu81 Zs5 rfl rfl ⟨by omega, by omega⟩)<|ZD 6 rfl Zl (fun w' hk' => X.loadS Zi5 (hs.keep (hk1.trans hk')) (j := 1) rfl rfl (fun _ h => by rw [h.1]; rfl)) ?_
 refine ZDc 7 rfl Zl (X.cvI Zu5 Zu210 rfl (cv8_32 _))<|ZDc 8 rfl Zl (X.shl rfl rfl (by decide) (shl32 _ 8 (by decide)))<|ZDc 9 rfl Zl (X.or_ rfl rfl (or32 _ _))<|ZDc 10 rfl Zl (Zdms rfl)<|ZD 11 rfl Zl (fun w' hk' => X.idxS (hs.keep (hk1.trans hk')) Zu81 Zs5 rfl rfl ⟨by omega, by omega⟩)<|ZD 12 rfl Zl (fun w' hk' => X.loadS Zi5 (hs.keep (hk1.trans hk')) (j := 2) rfl rfl (fun _ h => by rw [h.1]; rfl)) ?_
 refine ZDc 13 rfl Zl (X.cvI Zu5 Zu210 rfl (cv8_32 _))<|ZDc 14 rfl Zl (X.shl rfl rfl (by decide) (shl32 _ 16 (by decide)))<|ZDc 15 rfl Zl (X.or_ rfl rfl (or32 _ _))<|ZDc 16 rfl Zl (Zdms rfl)<|ZD 17 rfl Zl (fun w' hk' => X.idxS (hs.keep (hk1.trans hk')) Zu81 Zs5 rfl rfl ⟨by omega, by omega⟩)<|ZD 18 rfl Zl (fun w' hk' => X.loadS Zi5 (hs.keep (hk1.trans hk')) (j := 3) rfl rfl (fun _ h => by rw [h.1]; rfl)) ?_
 refine ZDc 19 rfl Zl (X.cvI Zu5 Zu210 rfl (cv8_32 _))<|ZDc 20 rfl Zl (X.shl rfl rfl (by decide) (shl32 _ 24 (by decide)))<|ZDc 21 rfl Zl (X.or_ rfl rfl (or32 _ _))<|X.dStep (i := 22) Zl rfl (X.dwN rfl) (X.assign (v := .int .u32 _) rfl) (fun h => absurd h (by decide))<|Zdend Zl<|X.ret1 (v := (.int .u32 _)) Tryz.func122 Tryz.results122 rfl ?_
 exact ⟨rfl, hk1⟩
theorem Grow_c (m : Int) (h0 : 0 ≤ m) (h1 : m ≤ 100000000) (w : World) : Ret Tryz.prog 153 #[.slice none 0 0, .int .i64 m] w fun v w' => Fresh KB 5 w w' v [] := by
 refine X.enter Tryz.func153 rfl Tryz.ntmps153 rfl<|Zs<|Zr<|Zoa rfl rfl<|Ze<|Zs<|Zs<|Zr<|Zomi rfl rfl<|X.opP X.wN rfl rfl (X.lss rfl rfl) (fun h6 => ?_) (fun h6 => ?_)
 ·omega
 ·refine Ze<|Zf rfl<|Zk<|Zs<|Zs<|Zr<|Zomi rfl rfl<|Zom rfl rfl<|Zo (X.capSl Zu81 rfl) rfl<|Zom rfl rfl<|Zo (X.lenSl Zu81 rfl) rfl<|Zo (X.sub rfl rfl (X.w_i64 Zz)) rfl<|Zo (X.sub rfl rfl (X.w_i64 Zz)) rfl<|Zoai rfl rfl<|Ze<|Zs<|Zr<|Zomi rfl rfl<|X.opP X.wN rfl rfl (X.gtr rfl rfl) (fun h16 => ?_) (fun h16 => ?_)
  ·refine Ze<|Zt rfl<|Zr<|Zom rfl rfl<|Zom rfl rfl<|Zo (X.capSl Zu81 rfl) rfl<|Zo (X.cutHr Zu81 Zs5 rfl rfl Zz) rfl<|Zomi rfl rfl<|Zc (X.appMkE Zu81 Tryz.underlying3 E8 rfl rfl Zz Zz) rfl ?_
   rintro _ w1 ⟨cap1, rfl, hcap1, hN1, hk1, hz1⟩
   refine Zom rfl rfl<|Zo (X.lenSl Zu81 rfl) rfl<|Zo (X.cutHr Zu81 Zs5 rfl rfl Zz) rfl<|Zoa rfl rfl<|Ze<|Zs<|Zr<|Zom rfl rfl<|Zoa rfl rfl<|Ze<|X.ret1 Tryz.func153 Tryz.results153 rfl ?_
   exact ⟨(X.NewRow.mine (K := KB) hN1 zq34), hk1⟩
  ·refine Ze<|Zf rfl<|Zk<|Zs<|Zr<|Zom rfl rfl<|Zoa rfl rfl<|Ze<|X.ret1 Tryz.func153 Tryz.results153 rfl ?_
   exact ⟨(Mine.nil KB 5 (fun k => w.heap.size ≤ k) 0 0 w), (Keep.refl _)⟩
theorem Clone_c_crc {lo hi : Nat} {A : Option Addr} {n c : Nat} {l : List UInt8} (w : World) (hs : Sl KB lo hi w A n l) (hn : n ≤ 100000000) : Ret Tryz.prog 74 #[.slice A n c] w fun r w' => Fresh KB 5 w w' r l := by
 have hl := hs.len
 refine X.enter Zf74 rfl Tryz.ntmps74 rfl<|Zs<|Zr<|Zoa rfl rfl<|Ze<|Zs<|Zs<|Zr<|Zoms rfl rfl<|X.opB X.wN rfl rfl (X.eqNil Zu81 rfl rfl) (fun h4 => ?_) (fun h4 => ?_)
 ·refine Ze<|Zt rfl<|Zs<|Zr<|Zoa rfl rfl<|Ze<|X.ret1 Zf74 Tryz.results74 rfl ?_
  refine ⟨?_, (Keep.refl _)⟩
  rcases Nat.eq_zero_or_pos n with h | h
  ·have hq : l = [] := List.eq_nil_of_length_eq_zero Zz
   subst hq; exact (Mine.nil _ _ _ _ _ _)
  ·obtain ⟨ad, e, _⟩ := hs.at_ h
   subst e; simp at h4
 ·refine Ze<|Zf rfl<|Zk<|Zs<|Zr<|Zc (X.lit0E (K := KB) (S := fun k => w.heap.size ≤ k) Zu81 Zs5 zq34) rfl ?_
  rintro v1 w1 ⟨hM1, hk1, hz1⟩
  refine Zoms rfl rfl<|Zc (X.appE (K := KB) (S := fun k => w.heap.size ≤ k) KB_flat Zu81 E8 rfl rfl hM1 (hs.keep hk1) zq15 zq34) rfl ?_
  rintro v2 w2 ⟨hM2, hx2⟩
  have hx2' := hx2.size
  refine Zoa rfl rfl<|Ze<|X.ret1 Zf74 Tryz.results74 rfl ?_
  exact ⟨hM2, (hk1.step hx2 zq34)⟩
theorem flat_at {ls : List (List UInt8)} {i : Nat} {x : List UInt8} (h : ls[i]? = some x) : (ls.take (i + 1)).flatten = (ls.take i).flatten ++ x := by
  rw [take_at h, List.flatten_append]; simp
theorem flat_le {ls : List (List UInt8)} {i : Nat} {x : List UInt8} (h : ls[i]? = some x) : (ls.take i).flatten.length + x.length ≤ ls.flatten.length := by
  have e : ls.flatten = (ls.take (i + 1)).flatten ++ (ls.drop (i + 1)).flatten := by rw [← List.flatten_append, List.take_append_drop]
  rw [e, flat_at h]; simp
theorem Concat_c {lo hi lo2 hi2 : Nat} {A : Option Addr} {n c : Nat} {vs : List Value} {ls : List (List UInt8)} (w : World) (hs : Sl KR1 lo hi w A n vs) (hr : SlRows KB lo2 hi2 w vs ls) (hn : ls.flatten.length ≤ 10000000) : Ret Tryz.prog 117 #[.slice A n c] w fun r w' => Fresh KB 5 w w' r ls.flatten := by
 have hl := hs.len
 have hll := hr.len
 have hbd := hs.bound
 refine X.enter Tryz.func117 rfl Tryz.ntmps117 rfl<|Zs<|Zr<|Zoa rfl rfl<|Ze<|Zs<|Zr<|Zoa rfl rfl<|Ze<|Zs<|Zs<|Zr<|Zoms rfl rfl<|Zo (X.lenSl Zu247 rfl) rfl<|Zom rfl rfl<|Ze<|Zb<|X.loopL (σ := Nat) (fun s => [(0, .slice A n c), (3, .int .i64 (((ls.take s).flatten.length : Nat) : Int)), (9, .slice A n c), (10, .int .i64 (n : Int)), (11, .int .i64 (s : Int))]) (fun s w' => s ≤ n ∧ Keep w w') (fun s => n - s) 0 ⟨rfl, rfl, rfl, rfl, rfl, trivial⟩ ⟨by simp, (Keep.refl _)⟩ ?_
 rintro i b wl ⟨hi0, hk⟩ hback
 have hk' := hk.size
 refine Zs<|Zr<|X.opP X.wN rfl rfl (X.lss rfl rfl) (fun h12 => ?_) (fun h12 => ?_)
 ·obtain ⟨y, hx⟩ := getN i hl h12
  obtain ⟨x, A1, n1, c1, hy2, rfl, hc1, hs1⟩ := hr.get hx
  have hfl := flat_le hy2
  have hs1l := hs1.len
  refine Ze<|Zs<|Zt rfl<|Zk<|Zs<|Zb<|Zs<|Zr<|Zo (X.idxS (hs.keep hk) Zu247 Zs81 rfl rfl ⟨by omega, by omega⟩) rfl<|Zo (X.loadS Tryz.isAgg81 (hs.keep hk) hx rfl (fun _ h => by rw [h.1]; rfl)) rfl ?_
  refine Zoa rfl rfl<|Ze<|Zs<|Zr<|Zomi rfl rfl<|Zom rfl rfl<|Zo (X.lenSl Zu81 rfl) rfl<|Zo (X.add (c := (((ls.take (i + 1)).flatten.length : Nat) : Int)) rfl rfl (by rw [flat_at hy2, List.length_append, X.w_i64 Zz]; omega)) rfl ?_
  refine Zoai rfl rfl<|Ze<|Zs<|Zr<|Zomi rfl rfl<|X.opP X.wN rfl rfl (X.lss rfl rfl) (fun h20 => ?_) (fun h20 => ?_)
  ·omega
  ·refine Ze<|Zf rfl<|Zk<|Zi<|Zr<|Zo (X.add rfl rfl (X.w_i64 Zz)) rfl<|Zomi rfl rfl<|Ze ?_
   refine hback (i + 1) _ _ ⟨rfl, rfl, rfl, rfl, rfl, trivial⟩ ⟨by omega, hk⟩ Zz
 ·have hfe : (ls.take i).flatten.length = ls.flatten.length := by rw [List.take_of_length_le Zz]
  refine Ze<|Zs<|Zf rfl<|Zx rfl<|Zs<|Zr<|Zomi rfl rfl<|Zc (X.callE (Grow_c _ Zz Zz _) Tryz.call153 rfl rfl) rfl ?_
  rintro v1 w1 ⟨hM1, hk1⟩
  have hk1' := hk1.size
  refine Zoa rfl rfl<|Ze<|Zs<|Zs<|Zr<|Zoms rfl rfl<|Zo (X.lenSl Zu247 rfl) rfl<|Zom rfl rfl<|Ze<|Zb<|X.loopL (σ := Nat × Value) (fun s => [(6, s.2), (25, .slice A n c), (26, .int .i64 (n : Int)), (27, .int .i64 (s.1 : Int))]) (fun s w' => s.1 ≤ n ∧ Mine KB 5 (fun k => w.heap.size ≤ k) 0 0 w' s.2 (ls.take s.1).flatten ∧ Keep w w') (fun s => n - s.1) (0, _) ⟨rfl, rfl, rfl, rfl, trivial⟩ ⟨by simp, by dsimp only; exact hM1.step (fun k h => by (try simp only [] at *); omega), (hk.trans hk1)⟩ ?_
  rintro ⟨i, v⟩ b wl ⟨hi0, hM, hk⟩ hback
  dsimp only
  simp only at hi0 hM
  have hk' := hk.size
  refine Zs<|Zr<|X.opP X.wN rfl rfl (X.lss rfl rfl) (fun h28 => ?_) (fun h28 => ?_)
  ·obtain ⟨y, hx⟩ := getN i hl h28
   obtain ⟨x, A1, n1, c1, hy2, rfl, hc1, hs1⟩ := hr.get hx
   have hfl := flat_le hy2
   have hs1l := hs1.len
   refine Ze<|Zs<|Zt rfl<|Zk<|Zs<|Zb<|Zs<|Zr<|Zo (X.idxS (hs.keep hk) Zu247 Zs81 rfl rfl ⟨by omega, by omega⟩) rfl<|Zo (X.loadS Tryz.isAgg81 (hs.keep hk) hx rfl (fun _ h => by rw [h.1]; rfl)) rfl ?_
   refine Zoas rfl rfl<|Ze<|Zr<|Zom rfl rfl<|Zoms rfl rfl<|Zc (X.appE (K := KB) (S := fun k => w.heap.size ≤ k) KB_flat Zu81 E8 rfl rfl hM (hs1.keep hk) zq15 zq34) rfl ?_
   rintro v2 w2 ⟨hM2, hx2⟩
   have hx2' := hx2.size
   refine Zoa rfl rfl<|Ze<|Zi<|Zr<|Zo (X.add rfl rfl (X.w_i64 Zz)) rfl<|Zomi rfl rfl<|Ze ?_
   refine hback (i + 1, _) _ _ ⟨rfl, rfl, rfl, rfl, trivial⟩ ⟨by dsimp only; omega, by dsimp only; rw [flat_at hy2]; exact hM2, (hk.step hx2 zq34)⟩ (by dsimp only; omega)
  ·refine Ze<|Zs<|Zf rfl<|Zx rfl<|Zs<|Zr<|Zom rfl rfl<|Zoa rfl rfl<|Ze<|X.ret1 Tryz.func117 Tryz.results117 rfl ?_
   refine ⟨?_, hk⟩
   rw [List.take_of_length_le Zz] at hM
   exact hM
theorem seal_flat (l : List UInt8) : sealC l = [l, lowC (sumC l)].flatten := by simp [sealC]
theorem open_sh {l : List UInt8} {n : Nat} (hl : l.length = n) (h : (n : Int) - 4 < 0) : openC l = (41, []) := by rw [openC, if_pos Zz]
theorem open_bad {l : List UInt8} {n : Nat} (hl : l.length = n) (h : ¬ (n : Int) - 4 < 0) (h2 : ((sumC (l.take ((n : Int) - 4).toNat)).toNat : Int) ≠ ((numC (l.drop ((n : Int) - 4).toNat)).toNat : Int)) : openC l = (40, []) := by
  rw [show ((n : Int) - 4).toNat = l.length - 4 by omega] at h2
  rw [openC, if_neg Zz, if_neg (fun e => h2 (by rw [e]))]
theorem open_ok {l : List UInt8} {n : Nat} (hl : l.length = n) (h : ¬ (n : Int) - 4 < 0) (h2 : ¬ ((sumC (l.take ((n : Int) - 4).toNat)).toNat : Int) ≠ ((numC (l.drop ((n : Int) - 4).toNat)).toNat : Int)) : openC l = (0, l.take ((n : Int) - 4).toNat) := by
  rw [show ((n : Int) - 4).toNat = l.length - 4 by omega] at h2 ⊢
  rw [openC, if_neg Zz, if_pos (BitVec.eq_of_toNat_eq Zz)]
theorem Seal_c {lo hi : Nat} {A : Option Addr} {n c : Nat} {l : List UInt8} (w : World) (hs : Sl KB lo hi w A n l) (hhi : hi ≤ w.heap.size) (hnc : n ≤ c) (hn : n ≤ 2000000) (hT : TabOk w) : Ret Tryz.prog 67 #[.slice A n c] w fun r w' => Fresh KB 5 w w' r (sealC l) := by
 have hl := hs.len
 have hlo : (lowC (sumC l)).length = 4 := rfl
 refine X.enter Tryz.func67 rfl Tryz.ntmps67 rfl<|Zs<|Zr<|Zoa rfl rfl<|Ze<|Zs<|Zr<|Zoms rfl rfl<|Zoms rfl rfl<|Zc (X.callE (Sum_c _ hs (hT.keep (Keep.refl _))) Tryz.call119 rfl rfl) rfl ?_
 rintro _ w1 ⟨rfl, hk1⟩
 have hk1' := hk1.size
 refine Zc (X.callE ((low_c _ _).mono freshB) Tryz.call118 rfl rfl) rfl ?_
 rintro _ w2 ⟨A2, c2, rfl, hc2, hs2, hM2, hk2⟩
 have hk2' := hk2.size
 refine Zc (X.litKE (K := KR1) (xs := [Operand.tmp 3, Operand.tmp 6]) (vs := [.slice A n c, .slice A2 (lowC (sumC l)).length c2]) (ys := [.slice A n c, .slice A2 (lowC (sumC l)).length c2]) Zu247 Zs81 Tryz.zeroValue81 rfl rfl rfl rfl rfl ⟨⟨_, rfl, rfl, rfl⟩, ⟨_, rfl, rfl, rfl⟩, trivial⟩) rfl ?_
 rintro _ w3 ⟨rfl, hs3, hB3, hk3, hz3⟩
 refine Zc (X.callE (Concat_c (lo2 := 0) (hi2 := w3.heap.size) (ls := [l, lowC (sumC l)]) _ hs3 ⟨⟨A, n, c, rfl, hnc, ((hs.keep ((hk1.trans hk2).trans hk3)).wide (Nat.zero_le _) Zz)⟩, ⟨_, _, _, rfl, hc2, ((hs2.keep hk3).wide (Nat.zero_le _) Zz)⟩, trivial⟩ (by simp only [List.flatten_cons, List.flatten_nil, List.length_append, List.length_nil, hlo, hl]; omega)) Tryz.call117 rfl rfl) rfl ?_
 rintro v4 w4 ⟨hM4, hk4⟩
 have hk4' := hk4.size
 refine Zoa rfl rfl<|Ze<|X.ret1 Tryz.func67 Tryz.results67 rfl ?_
 exact ⟨by rw [seal_flat]; exact (hM4.step (T := fun k => w.heap.size ≤ k) (fun k h => by (try simp only [] at *); omega)), (((hk1.trans hk2).trans hk3).trans hk4)⟩
theorem Open_c {lo hi : Nat} {A : Option Addr} {n c : Nat} {l : List UInt8} (w : World) (hs : Sl KB lo hi w A n l) (hnc : n ≤ c) (hn : n ≤ 2000000) (hT : TabOk w) : Ret Tryz.prog 79 #[.slice A n c] w fun r w' => ∃ v, r = .tuple #[v, .int .i64 (openC l).1] ∧ Fresh KB 5 w w' v (openC l).2 := by
 have hl := hs.len
 refine X.enter Zf79 rfl Tryz.ntmps79 rfl<|Zs<|Zr<|Zoa rfl rfl<|Zoa rfl rfl<|Ze<|Zs<|Zr<|Zoms rfl rfl<|Zo (X.lenSl Zu81 rfl) rfl<|Zo (X.sub rfl rfl (X.w_i64 Zz)) rfl<|Zoai rfl rfl<|Ze<|Zs<|Zb<|Zs<|Zr<|Zomi rfl rfl<|X.opP X.wN rfl rfl (X.lss rfl rfl) (fun h10 => ?_) (fun h10 => ?_)
 ·refine Zoat rfl rfl<|Ze<|Zt rfl<|Zs<|Zr<|Zoa rfl rfl<|Zoa rfl rfl<|Ze<|X.ret2 (v2 := (.int .i64 _)) Zf79 Zr79 rfl rfl ?_
  rw [open_sh hl h10]
  exact ⟨_, rfl, ((Mine.nil _ _ _ _ _ _).step (T := fun k => w.heap.size ≤ k) (fun k h => by (try simp only [] at *); omega)), (Keep.refl _)⟩
 ·refine Zoaf rfl rfl<|Ze<|Zf rfl<|Zs<|X.regionD (fun _ => False) 10 Zl Zl (fun w1 hk1 hz1 => ?_)
  refine ZDc 0 rfl Zl (Zdms rfl)<|ZDc 1 rfl Zl (Zdmi rfl)<|ZDc 2 rfl Zl (X.cutHr Zu81 Zs5 rfl rfl Zz)<|ZDc 4 rfl Zl (Zdms rfl)<|ZDc 5 rfl Zl (Zdmi rfl)<|ZDc 6 rfl Zl (X.cutL Zu81 Zs5 rfl rfl Zz)<|X.dE (i := 3) Zl rfl (X.dwN rfl) (X.callE (Sum_c _ ((hs.take ((n : Int) - 4).toNat Zz).keep hk1) (hT.keep hk1)) Tryz.call119 rfl rfl) (by rintro _ w2 ⟨rfl, hk2⟩ _; exact hk2.mono (fun _ _ h => h.elim)) ?_
  rintro _ w2 ⟨rfl, hk2⟩
  have hk2' := hk2.size
  refine X.dE (i := 7) Zl rfl (X.dwN rfl) (X.callE (number_c _ ((hs.drop ((n : Int) - 4).toNat c Zz hnc).keep (hk1.trans hk2)) Zz) Tryz.call122 rfl rfl) (by rintro _ w3 ⟨rfl, hk3⟩ _; exact hk3.mono (fun _ _ h => h.elim)) ?_
  rintro _ w3 ⟨rfl, hk3⟩
  have hk3' := hk3.size
  refine ZDc 8 rfl Zl (X.neI rfl rfl)<|ZDc 9 rfl Zl (Zdao rfl)<|Zdend Zl<|X.condB rfl (fun hc => ?_) (fun hc => ?_)
  ·refine Zs<|Zr<|Zoa rfl rfl<|Zoa rfl rfl<|Ze<|X.ret2 (v2 := (.int .i64 _)) Zf79 Zr79 rfl rfl ?_
   rw [open_bad hl h10 (of_decide_eq_true hc)]
   exact ⟨_, rfl, ((Mine.nil _ _ _ _ _ _).step (T := fun k => w.heap.size ≤ k) (fun k h => by (try simp only [] at *); omega)), ((hk1.trans hk2).trans hk3)⟩
  ·refine Zk<|Zi<|Zs<|Zr<|Zoms rfl rfl<|Zomi rfl rfl<|Zo (X.cutHr Zu81 Zs5 rfl rfl Zz) rfl<|Zc (X.callE ((Clone_c_crc _ ((hs.take ((n : Int) - 4).toNat Zz).keep ((hk1.trans hk2).trans hk3)) Zz).mono freshB) Tryz.call74 rfl rfl) rfl ?_
   rintro _ w4 ⟨A4, c4, rfl, hc4, hs4, hM4, hk4⟩
   have hk4' := hk4.size
   refine Zoa rfl rfl<|Zoa rfl rfl<|Ze<|X.ret2 (v2 := (.int .i64 _)) Zf79 Zr79 rfl rfl ?_
   rw [open_ok hl h10 (of_decide_eq_false hc)]
   exact ⟨_, rfl, (hM4.step (T := fun k => w.heap.size ≤ k) (fun k h => by (try simp only [] at *); omega)), (((hk1.trans hk2).trans hk3).trans hk4)⟩
theorem seal_len (l : List UInt8) : (sealC l).length = l.length + 4 := by simp [sealC, lowC]
theorem C32_at (c : UInt8) (i : Nat) : (C32 c).getLsbD i = (decide (i < 32) && c.toNat.testBit i) := by
  rw [C32, BitVec.getLsbD_ofNat]
theorem num_low (r : R32) : numC (lowC r) = r := by
  show num4 _ _ _ _ = r
  apply BitVec.eq_of_getLsbD_eq
  intro i hi
  have h8 : ∀ (x : R32) (j : Nat), (C32 (UInt8.ofNat x.toNat)).getLsbD j = (decide (j < 8) && x.getLsbD j) := by
    intro x j
    rw [C32_at, UInt8.toNat_ofNat', show (2 : Nat) ^ 8 = 2 ^ 8 from rfl, Nat.testBit_mod_two_pow]
    by_cases h : j < 8
    · simp [h, show j < 32 by omega, BitVec.getLsbD]
    · simp [h]
  simp only [num4, BitVec.getLsbD_or, BitVec.getLsbD_shiftLeft, h8, BitVec.getLsbD_ushiftRight, hi, decide_true, Bool.true_and]
  by_cases h1 : i < 8
  · simp [h1, show i < 16 by omega, show i < 24 by omega]
  · by_cases h2 : i < 16
    · simp [h1, h2, show i - 8 < 8 by omega, show i < 24 by omega, show 8 + (i - 8) = i by omega]
    · by_cases h3 : i < 24
      · simp [h1, h2, h3, show ¬ i - 8 < 8 by omega, show i - 16 < 8 by omega, show 16 + (i - 16) = i by omega]
      · simp [h1, h2, h3, show ¬ i - 8 < 8 by omega, show ¬ i - 16 < 8 by omega, show i - 24 < 8 by omega, show 24 + (i - 24) = i by omega]
theorem open_seal (l : List UInt8) : openC (sealC l) = (0, l) := by
  have h := seal_len l
  have h1 : (sealC l).take ((sealC l).length - 4) = l := by rw [h, Nat.add_sub_cancel, sealC, List.take_left]
  have h2 : (sealC l).drop ((sealC l).length - 4) = lowC (sumC l) := by rw [h, Nat.add_sub_cancel, sealC, List.drop_left]
  rw [openC, if_neg Zz, h1, h2, num_low, if_pos rfl]
end Go.Proofs.YtjjhddjllpihaaaGreatDoor
