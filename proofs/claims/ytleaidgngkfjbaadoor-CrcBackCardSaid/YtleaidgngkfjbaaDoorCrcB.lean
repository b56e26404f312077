/- Sums of 32 bits, and their reference: contracts. -/
import Derived.Test.YtleaidgngkfjbaaDoorCrcA
namespace Go.Proofs.YtleaidgngkfjbaaDoor
open Go Go.Proofs.YtleaidgngkfjbaaDoor.X
set_option linter.unusedVariables false
set_option linter.unusedSimpArgs false

theorem moreC_cons (r : R32) (c : UInt8) (l : List UInt8) : moreC r (c :: l) = moreC (byteC r c) l := rfl
-- f35 "pedigree/crc.more" params [27, 22] results [27] -> [(ResultVar.tmp 4)] nfree 0 ntmps 33 names ["r", "b
set_option maxHeartbeats 4000000 in
set_option maxRecDepth 100000 in
theorem more_c (r : R32) {lo hi : Nat} {A : Option Addr} {n c : Nat} {l : List UInt8} (w : World) (hs : Sl KB lo hi w A n l) (hT : TabOk w) : Ret Tryd.prog 35 #[.int .u32 (r.toNat : Int), .slice A n c] w fun v w' => v = .int .u32 ((moreC r l).toNat : Int) ∧ Keep w w' := by
  have hl := hs.len
  have hbd := hs.bound
  refine X.enter Tryd.func35 rfl Tryd.ntmps35 rfl ?_
  refine X.seq ?_
  refine X.region ?_
  refine X.opw X.wN rfl (X.assign rfl) ?_
  refine X.opsEnd ?_
  refine X.seq ?_
  refine X.seq ?_
  refine X.region ?_
  refine X.opw X.wN rfl (X.move (v := .slice _ _ _) rfl) ?_
  refine X.opw X.wN rfl (X.lenSl Tryd.underlying22 rfl) ?_
  refine X.opw X.wN rfl (X.move rfl) ?_
  refine X.opsEnd ?_
  refine X.block ?_
  -- LOOP live: 0=r*, 7, 8, 9*
  refine X.loopL (σ := Nat × R32) (fun s => [(0, .int .u32 (s.2.toNat : Int)), (7, .slice A n c), (8, .int .i64 (n : Int)), (9, .int .i64 (s.1 : Int))]) (fun s w' => s.1 ≤ n ∧ moreC s.2 (l.drop s.1) = moreC r l ∧ Keep w w') (fun s => n - s.1) (0, r) ⟨rfl, rfl, rfl, rfl, trivial⟩ ⟨by simp, by simp, (Keep.refl _)⟩ ?_
  rintro ⟨i, r1⟩ b wl ⟨hi0, hp, hk⟩ hback
  dsimp only
  simp only at hi0 hp
  refine X.seq ?_
  refine X.region ?_
  refine X.opP X.wN rfl rfl (X.lss rfl rfl) (fun h10 => ?_) (fun h10 => ?_)
  · obtain ⟨y, hx⟩ := getN i hl h10
    rw [drop_at hx, moreC_cons] at hp
    refine X.opsEnd ?_
    refine X.seq ?_
    refine X.condT rfl ?_
    refine X.skip ?_
    refine X.seq ?_
    refine X.block ?_
    refine X.seq ?_
    refine X.region ?_
    refine X.opw X.wN rfl (X.idxS (hs.keep hk) Tryd.underlying22 Tryd.sizeOf5 rfl rfl ⟨by omega, by omega⟩) ?_
    refine X.opw X.wN rfl (X.loadS Tryd.isAgg5 (hs.keep hk) hx rfl (fun _ h => by rw [h.1]; rfl)) ?_
    refine X.opw X.wN rfl (X.assign (v := .int .u8 _) rfl) ?_
    refine X.opsEnd ?_
    refine X.seq ?_
    refine X.region ?_
    refine X.opw X.wN rfl (X.move (v := .int .u32 _) rfl) ?_
    refine X.opw X.wN rfl (X.move (v := .int .u8 _) rfl) ?_
    refine X.opw X.wN rfl (X.cvI Tryd.underlying5 Tryd.underlying27 rfl (cv8_32 _)) ?_
    refine X.opw X.wN rfl (X.xor_ rfl rfl (xor32 _ _)) ?_
    refine X.opw X.wN rfl (X.assign (v := .int .u32 _) rfl) ?_
    refine X.opsEnd ?_
    refine X.seq ?_
    refine X.region ?_
    refine X.opw X.wN rfl (X.move (v := .int .u32 _) rfl) ?_
    refine X.opw X.wN rfl (X.shr rfl rfl (by decide) (shr32 _ 4 (by decide))) ?_
    refine X.opw X.wN rfl (X.move (v := .int .u32 _) rfl) ?_
    refine X.opw X.wN rfl (X.and_ rfl rfl (and32 _ 15#32)) ?_
    refine X.opw X.wN rfl (X.idxArr Tryd.underlying68 Tryd.sizeOf27 rfl rfl ⟨Int.natCast_nonneg _, by rw [and15]; omega⟩) ?_
    refine X.opw X.wN rfl (X.load1 Tryd.isAgg27 rfl ((hT.keep hk).at _)) ?_
    refine X.opw X.wN rfl (X.xor_ rfl rfl (xor32 _ _)) ?_
    refine X.opw X.wN rfl (X.assign (v := .int .u32 _) rfl) ?_
    refine X.opsEnd ?_
    refine X.region ?_
    refine X.opw X.wN rfl (X.move (v := .int .u32 _) rfl) ?_
    refine X.opw X.wN rfl (X.shr rfl rfl (by decide) (shr32 _ 4 (by decide))) ?_
    refine X.opw X.wN rfl (X.move (v := .int .u32 _) rfl) ?_
    refine X.opw X.wN rfl (X.and_ rfl rfl (and32 _ 15#32)) ?_
    refine X.opw X.wN rfl (X.idxArr Tryd.underlying68 Tryd.sizeOf27 rfl rfl ⟨Int.natCast_nonneg _, by rw [and15]; omega⟩) ?_
    refine X.opw X.wN rfl (X.load1 Tryd.isAgg27 rfl ((hT.keep hk).at _)) ?_
    refine X.opw X.wN rfl (X.xor_ rfl rfl (xor32 _ _)) ?_
    refine X.opw X.wN rfl (X.assign (v := .int .u32 _) rfl) ?_
    refine X.opsEnd ?_
    refine X.inBlock ?_
    refine X.region ?_
    refine X.opw X.wN rfl (X.add rfl rfl (X.w_i64 (by omega))) ?_
    refine X.opw X.wN rfl (X.move (v := .int .i64 _) rfl) ?_
    refine X.opsEnd ?_
    refine hback (i + 1, byteC r1 y) _ _ ⟨rfl, rfl, rfl, rfl, trivial⟩ ⟨by dsimp only; omega, hp, hk⟩ (by dsimp only; omega)
  · rw [List.drop_of_length_le (by omega)] at hp
    refine X.opsEnd ?_
    refine X.seq ?_
    refine X.condF rfl ?_
    refine X.exit rfl ?_
    refine X.seq ?_
    refine X.region ?_
    refine X.opw X.wN rfl (X.move (v := .int .u32 _) rfl) ?_
    refine X.opw X.wN rfl (X.assign (v := .int .u32 _) rfl) ?_
    refine X.opsEnd ?_
    refine X.ret1 (v := (.int .u32 _)) Tryd.func35 Tryd.results35 rfl ?_
    exact ⟨by rw [← hp]; rfl, hk⟩
-- f13 "pedigree/crc.Sum" params [22] results [27] -> [(ResultVar.tmp 2)] nfree 0 ntmps 6 names ["b", "b", "",
set_option maxHeartbeats 4000000 in
set_option maxRecDepth 100000 in
theorem Sum_c {lo hi : Nat} {A : Option Addr} {n c : Nat} {l : List UInt8} (w : World) (hs : Sl KB lo hi w A n l) (hT : TabOk w) : Ret Tryd.prog 13 #[.slice A n c] w fun v w' => v = .int .u32 ((sumC l).toNat : Int) ∧ Keep w w' := by
  refine X.enter Tryd.func13 rfl Tryd.ntmps13 rfl ?_
  refine X.seq ?_
  refine X.region ?_
  refine X.opw X.wN rfl (X.assign rfl) ?_
  refine X.opsEnd ?_
  refine X.seq ?_
  refine X.region ?_
  refine X.opw X.wN rfl (X.move (v := .slice _ _ _) rfl) ?_
  refine X.opE X.wN rfl (X.callE (more_c (BitVec.ofNat 32 4294967295) _ hs (hT.keep (Keep.refl _))) Tryd.call35 rfl rfl) ?_
  rintro _ w1 ⟨rfl, hk1⟩
  have hk1' := hk1.size
  refine X.opw X.wN rfl (X.com rfl (com32 _)) ?_
  refine X.opw X.wN rfl (X.assign (v := .int .u32 _) rfl) ?_
  refine X.opsEnd ?_
  refine X.ret1 (v := (.int .u32 _)) Tryd.func13 Tryd.results13 rfl ?_
  exact ⟨rfl, hk1⟩
-- f36 "pedigree/pedigreeref04.step" params [27, 27] results [27] -> [(ResultVar.tmp 4)] nfree 0 ntmps 15 name
set_option maxHeartbeats 4000000 in
set_option maxRecDepth 100000 in
theorem step_c (r b : R32) (w : World) : Ret Tryd.prog 36 #[.int .u32 (r.toNat : Int), .int .u32 (b.toNat : Int)] w fun v w' => v = .int .u32 ((rstep r b).toNat : Int) ∧ Keep w w' := by
  refine X.enter Tryd.func36 rfl Tryd.ntmps36 rfl ?_
  refine X.seq ?_
  refine X.region ?_
  refine X.opw X.wN rfl (X.assign rfl) ?_
  refine X.opsEnd ?_
  refine X.seq ?_
  refine X.seq ?_
  refine X.region ?_
  refine X.opw X.wN rfl (X.move (v := .int .u32 _) rfl) ?_
  refine X.opw X.wN rfl (X.move (v := .int .u32 _) rfl) ?_
  refine X.opw X.wN rfl (X.xor_ rfl rfl (xor32 _ _)) ?_
  refine X.opw X.wN rfl (X.and_ rfl rfl (and32 _ 1#32)) ?_
  refine X.opP X.wN rfl rfl (X.eqI rfl rfl) (fun h9 => ?_) (fun h9 => ?_)
  · refine X.opsEnd ?_
    refine X.condT rfl ?_
    refine X.seq ?_
    refine X.region ?_
    refine X.opw X.wN rfl (X.move (v := .int .u32 _) rfl) ?_
    refine X.opw X.wN rfl (X.shr rfl rfl (by decide) (shr32 _ 1 (by decide))) ?_
    refine X.opw X.wN rfl (X.xor_ rfl rfl (xor32 _ 3988292384#32)) ?_
    refine X.opw X.wN rfl (X.assign (v := .int .u32 _) rfl) ?_
    refine X.opsEnd ?_
    refine X.ret1 (v := (.int .u32 _)) Tryd.func36 Tryd.results36 rfl ?_
    exact ⟨by rw [rstep, if_pos (BitVec.eq_of_toNat_eq (show _ = 1 by omega))]; rfl, (Keep.refl _)⟩
  · refine X.opsEnd ?_
    refine X.condF rfl ?_
    refine X.skip ?_
    refine X.seq ?_
    refine X.region ?_
    refine X.opw X.wN rfl (X.move (v := .int .u32 _) rfl) ?_
    refine X.opw X.wN rfl (X.shr rfl rfl (by decide) (shr32 _ 1 (by decide))) ?_
    refine X.opw X.wN rfl (X.assign (v := .int .u32 _) rfl) ?_
    refine X.opsEnd ?_
    refine X.ret1 (v := (.int .u32 _)) Tryd.func36 Tryd.results36 rfl ?_
    exact ⟨by rw [rstep, if_neg (fun e => h9 (by rw [e]; rfl))], (Keep.refl _)⟩
theorem shr8 (y : UInt8) (k : Nat) (hk : k < 8) : ((y.toNat : Nat) : Int).fdiv (2 ^ (min ((k : Int)).toNat IntKind.u8.bits)) = ((y.toNat / 2 ^ k : Nat) : Int) := by
  have h : min ((k : Int)).toNat IntKind.u8.bits = k := by show min ((k : Int)).toNat 8 = k; omega
  have e : (2 : Int) ^ k = ((2 ^ k : Nat) : Int) := by rw [Int.natCast_pow]; rfl
  rw [h, e, Int.fdiv_eq_ediv_of_nonneg _ (Int.natCast_nonneg _)]
  rfl
theorem cvK (y : UInt8) (k : Nat) : IntKind.u32.wrap ((y.toNat / 2 ^ k : Nat) : Int) = ((CK y k).toNat : Int) := by
  rw [CK_toNat]; have := y.toNat_lt
  have h2 : y.toNat / 2 ^ k ≤ y.toNat := Nat.div_le_self _ _
  exact w_u32 ⟨Int.natCast_nonneg _, Int.le_trans (Int.ofNat_le.2 h2) (by omega)⟩
-- f14 "pedigree/pedigreeref04.Sum" params [22] results [27] -> [(ResultVar.tmp 2)] nfree 0 ntmps 29 names ["b
set_option maxHeartbeats 4000000 in
set_option maxRecDepth 100000 in
theorem RSum_c {lo hi : Nat} {A : Option Addr} {n c : Nat} {l : List UInt8} (w : World) (hs : Sl KB lo hi w A n l) : Ret Tryd.prog 14 #[.slice A n c] w fun v w' => v = .int .u32 ((sumC l).toNat : Int) ∧ Keep w w' := by
  have hl := hs.len
  have hbd := hs.bound
  refine X.enter Tryd.func14 rfl Tryd.ntmps14 rfl ?_
  refine X.seq ?_
  refine X.region ?_
  refine X.opw X.wN rfl (X.assign rfl) ?_
  refine X.opsEnd ?_
  refine X.seq ?_
  refine X.region ?_
  refine X.opw X.wN rfl (X.assign rfl) ?_
  refine X.opsEnd ?_
  refine X.seq ?_
  refine X.seq ?_
  refine X.region ?_
  refine X.opw X.wN rfl (X.assign rfl) ?_
  refine X.opsEnd ?_
  refine X.block ?_
  -- LOOP live: 0=b, 3=r*, 4=i*
  refine X.loopL (σ := Nat × R32) (fun s => [(0, .slice A n c), (3, .int .u32 (s.2.toNat : Int)), (4, .int .i64 (s.1 : Int))]) (fun s w' => s.1 ≤ n ∧ moreC s.2 (l.drop s.1) = moreC (BitVec.ofNat 32 4294967295) l ∧ Keep w w') (fun s => n - s.1) (0, BitVec.ofNat 32 4294967295) ⟨rfl, rfl, rfl, trivial⟩ ⟨by simp, by simp, (Keep.refl _)⟩ ?_
  rintro ⟨i, r1⟩ b wl ⟨hi0, hp, hk⟩ hback
  dsimp only
  simp only at hi0 hp
  refine X.seq ?_
  refine X.seq ?_
  refine X.region ?_
  refine X.opw X.wN rfl (X.move (v := .int .i64 _) rfl) ?_
  refine X.opw X.wN rfl (X.move (v := .slice _ _ _) rfl) ?_
  refine X.opw X.wN rfl (X.lenSl Tryd.underlying22 rfl) ?_
  refine X.opP X.wN rfl rfl (X.lss rfl rfl) (fun h9 => ?_) (fun h9 => ?_)
  · obtain ⟨y, hx⟩ := getN i hl h9
    rw [drop_at hx, moreC_cons] at hp
    refine X.opsEnd ?_
    refine X.condT rfl ?_
    refine X.skip ?_
    refine X.seq ?_
    refine X.block ?_
    refine X.seq ?_
    refine X.region ?_
    refine X.opw X.wN rfl (X.assign rfl) ?_
    refine X.opsEnd ?_
    refine X.block ?_
    -- LOOP live: 0=b, 3=r*, 4=i, 5=k*
    refine X.loopL (σ := Nat × R32) (fun s => [(0, .slice A n c), (3, .int .u32 (s.2.toNat : Int)), (4, .int .i64 (i : Int)), (5, .int .i64 (s.1 : Int))]) (fun s w' => s.1 ≤ 8 ∧ stN (8 - s.1) (s.2 ^^^ CK y s.1) = byteC r1 y ∧ Keep w w') (fun s => 8 - s.1) (0, r1) ⟨rfl, rfl, rfl, rfl, trivial⟩ ⟨by simp, bits_first r1 y, hk⟩ ?_
    rintro ⟨k, r2⟩ b wm ⟨hk0, hq, hk⟩ hback2
    dsimp only
    simp only at hk0 hq
    refine X.seq ?_
    refine X.seq ?_
    refine X.region ?_
    refine X.opw X.wN rfl (X.move (v := .int .i64 _) rfl) ?_
    refine X.opP X.wN rfl rfl (X.lss rfl rfl) (fun h13 => ?_) (fun h13 => ?_)
    · refine X.opsEnd ?_
      refine X.condT rfl ?_
      refine X.skip ?_
      refine X.seq ?_
      refine X.block ?_
      refine X.region ?_
      refine X.opw X.wN rfl (X.move (v := .int .u32 _) rfl) ?_
      refine X.opw X.wN rfl (X.move (v := .slice _ _ _) rfl) ?_
      refine X.opw X.wN rfl (X.move (v := .int .i64 _) rfl) ?_
      refine X.opw X.wN rfl (X.idxS (hs.keep hk) Tryd.underlying22 Tryd.sizeOf5 rfl rfl ⟨by omega, by omega⟩) ?_
      refine X.opw X.wN rfl (X.loadS Tryd.isAgg5 (hs.keep hk) hx rfl (fun _ h => by rw [h.1]; rfl)) ?_
      refine X.opw X.wN rfl (X.move (v := .int .i64 _) rfl) ?_
      refine X.opw X.wN rfl (X.cvI Tryd.underlying3 Tryd.underlying34 rfl (X.w_u64 (by omega))) ?_
      refine X.opw X.wN rfl (X.shr (c := ((y.toNat / 2 ^ k : Nat) : Int)) rfl rfl (by omega) (shr8 y k (by omega))) ?_
      refine X.opw X.wN rfl (X.cvI Tryd.underlying5 Tryd.underlying27 rfl (cvK y k)) ?_
      refine X.opw X.wN rfl (X.and_ rfl rfl (and32 _ 1#32)) ?_
      refine X.opE X.wN rfl (X.callE (step_c _ (bitK y k) _) Tryd.call36 rfl rfl) ?_
      rintro _ w1 ⟨rfl, hk1⟩
      have hk1' := hk1.size
      refine X.opw X.wN rfl (X.assign (v := .int .u32 _) rfl) ?_
      refine X.opsEnd ?_
      refine X.inBlock ?_
      refine X.region ?_
      refine X.opw X.wN rfl (X.move (v := .int .i64 _) rfl) ?_
      refine X.opw X.wN rfl (X.add rfl rfl (X.w_i64 (by omega))) ?_
      refine X.opw X.wN rfl (X.assign (v := .int .i64 _) rfl) ?_
      refine X.opsEnd ?_
      refine hback2 (k + 1, rstep r2 (bitK y k)) _ _ ⟨rfl, rfl, rfl, rfl, trivial⟩ ⟨by dsimp only; omega, bits_next _ r2 y k (by omega) hq, (hk.trans hk1)⟩ (by dsimp only; omega)
    · obtain rfl : k = 8 := by omega
      have hr := bits_last hq
      subst hr
      refine X.opsEnd ?_
      refine X.condF rfl ?_
      refine X.exit rfl ?_
      refine X.inBlock ?_
      refine X.region ?_
      refine X.opw X.wN rfl (X.move (v := .int .i64 _) rfl) ?_
      refine X.opw X.wN rfl (X.add rfl rfl (X.w_i64 (by omega))) ?_
      refine X.opw X.wN rfl (X.assign (v := .int .i64 _) rfl) ?_
      refine X.opsEnd ?_
      refine hback (i + 1, byteC r1 y) _ _ ⟨rfl, rfl, rfl, trivial⟩ ⟨by dsimp only; omega, hp, hk⟩ (by dsimp only; omega)
  · rw [List.drop_of_length_le (by omega)] at hp
    refine X.opsEnd ?_
    refine X.condF rfl ?_
    refine X.exit rfl ?_
    refine X.seq ?_
    refine X.region ?_
    refine X.opw X.wN rfl (X.move (v := .int .u32 _) rfl) ?_
    refine X.opw X.wN rfl (X.com rfl (com32 _)) ?_
    refine X.opw X.wN rfl (X.assign (v := .int .u32 _) rfl) ?_
    refine X.opsEnd ?_
    refine X.ret1 (v := (.int .u32 _)) Tryd.func14 Tryd.results14 rfl ?_
    exact ⟨by rw [sumC, ← hp]; rfl, hk⟩
end Go.Proofs.YtleaidgngkfjbaaDoor
