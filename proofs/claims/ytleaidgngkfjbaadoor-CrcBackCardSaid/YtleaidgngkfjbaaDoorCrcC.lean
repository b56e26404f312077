/- Bytes of a sum, sealed bytes, and their reference: contracts. -/
import Derived.Test.YtleaidgngkfjbaaDoorCrcB
namespace Go.Proofs.YtleaidgngkfjbaaDoor
open Go Go.Proofs.YtleaidgngkfjbaaDoor.X
set_option linter.unusedVariables false
set_option linter.unusedSimpArgs false

theorem four_split {l : List UInt8} {n : Nat} (hl : l.length = n) (h : 4 ≤ n) : ∃ a b c d t, l = a :: b :: c :: d :: t := by
  match l, hl with
  | a :: b :: c :: d :: t, _ => exact ⟨a, b, c, d, t, rfl⟩
  | [], e => simp at e; omega
  | [a], e => simp at e; omega
  | [a, b], e => simp at e; omega
  | [a, b, c], e => simp at e; omega
-- f38 "pedigree/crc.low" params [27] results [22] -> [(ResultVar.tmp 2)] nfree 0 ntmps 15 names ["x", "x", ""
set_option maxHeartbeats 4000000 in
set_option maxRecDepth 100000 in
theorem low_c (r : R32) (w : World) : Ret Tryd.prog 38 #[.int .u32 (r.toNat : Int)] w fun v w' => Fresh KB 5 w w' v (lowC r) := by
  refine X.enter Tryd.func38 rfl Tryd.ntmps38 rfl ?_
  refine X.seq ?_
  refine X.region ?_
  refine X.opw X.wN rfl (X.assign rfl) ?_
  refine X.opsEnd ?_
  refine X.seq ?_
  refine X.region ?_
  refine X.opw X.wN rfl (X.move (v := .int .u32 _) rfl) ?_
  refine X.opw X.wN rfl (X.cvI Tryd.underlying27 Tryd.underlying5 rfl (cv32_8 _)) ?_
  refine X.opw X.wN rfl (X.move (v := .int .u32 _) rfl) ?_
  refine X.opw X.wN rfl (X.shr rfl rfl (by decide) (shr32 _ 8 (by decide))) ?_
  refine X.opw X.wN rfl (X.cvI Tryd.underlying27 Tryd.underlying5 rfl (cv32_8 _)) ?_
  refine X.opw X.wN rfl (X.move (v := .int .u32 _) rfl) ?_
  refine X.opw X.wN rfl (X.shr rfl rfl (by decide) (shr32 _ 16 (by decide))) ?_
  refine X.opw X.wN rfl (X.cvI Tryd.underlying27 Tryd.underlying5 rfl (cv32_8 _)) ?_
  refine X.opw X.wN rfl (X.move (v := .int .u32 _) rfl) ?_
  refine X.opw X.wN rfl (X.shr rfl rfl (by decide) (shr32 _ 24 (by decide))) ?_
  refine X.opw X.wN rfl (X.cvI Tryd.underlying27 Tryd.underlying5 rfl (cv32_8 _)) ?_
  refine X.opE X.wN rfl (X.litKE (K := KB) (xs := [Operand.tmp 4, Operand.tmp 7, Operand.tmp 10, Operand.tmp 13]) (vs := [.int .u8 ((UInt8.ofNat r.toNat).toNat : Int), .int .u8 ((UInt8.ofNat (r >>> 8).toNat).toNat : Int), .int .u8 ((UInt8.ofNat (r >>> 16).toNat).toNat : Int), .int .u8 ((UInt8.ofNat (r >>> 24).toNat).toNat : Int)]) (ys := [UInt8.ofNat r.toNat, UInt8.ofNat (r >>> 8).toNat, UInt8.ofNat (r >>> 16).toNat, UInt8.ofNat (r >>> 24).toNat]) Tryd.underlying22 Tryd.sizeOf5 Tryd.zeroValue5 rfl rfl rfl rfl rfl (repsB [UInt8.ofNat r.toNat, UInt8.ofNat (r >>> 8).toNat, UInt8.ofNat (r >>> 16).toNat, UInt8.ofNat (r >>> 24).toNat])) ?_
  rintro _ w1 ⟨rfl, hs1, hB1, hk1, hz1⟩
  refine X.opw X.wN rfl (X.assign rfl) ?_
  refine X.opsEnd ?_
  refine X.ret1 Tryd.func38 Tryd.results38 rfl ?_
  exact ⟨(Mine.litV (vs := [.int .u8 ((UInt8.ofNat r.toNat).toNat : Int), .int .u8 ((UInt8.ofNat (r >>> 8).toNat).toNat : Int), .int .u8 ((UInt8.ofNat (r >>> 16).toNat).toNat : Int), .int .u8 ((UInt8.ofNat (r >>> 24).toNat).toNat : Int)]) (w0 := w) KB_flat hB1 (repsB [UInt8.ofNat r.toNat, UInt8.ofNat (r >>> 8).toNat, UInt8.ofNat (r >>> 16).toNat, UInt8.ofNat (r >>> 24).toNat]) rfl (by omega) (by intros; (try simp only [] at *); omega)), hk1⟩
-- f39 "pedigree/pedigreeref04.four" params [27] results [22] -> [(ResultVar.tmp 2)] nfree 0 ntmps 15 names ["
set_option maxHeartbeats 4000000 in
set_option maxRecDepth 100000 in
theorem four_c (r : R32) (w : World) : Ret Tryd.prog 39 #[.int .u32 (r.toNat : Int)] w fun v w' => Fresh KB 5 w w' v (lowC r) := by
  refine X.enter Tryd.func39 rfl Tryd.ntmps39 rfl ?_
  refine X.seq ?_
  refine X.region ?_
  refine X.opw X.wN rfl (X.assign rfl) ?_
  refine X.opsEnd ?_
  refine X.seq ?_
  refine X.region ?_
  refine X.opw X.wN rfl (X.move (v := .int .u32 _) rfl) ?_
  refine X.opw X.wN rfl (X.cvI Tryd.underlying27 Tryd.underlying5 rfl (cv32_8 _)) ?_
  refine X.opw X.wN rfl (X.move (v := .int .u32 _) rfl) ?_
  refine X.opw X.wN rfl (X.shr rfl rfl (by decide) (shr32 _ 8 (by decide))) ?_
  refine X.opw X.wN rfl (X.cvI Tryd.underlying27 Tryd.underlying5 rfl (cv32_8 _)) ?_
  refine X.opw X.wN rfl (X.move (v := .int .u32 _) rfl) ?_
  refine X.opw X.wN rfl (X.shr rfl rfl (by decide) (shr32 _ 16 (by decide))) ?_
  refine X.opw X.wN rfl (X.cvI Tryd.underlying27 Tryd.underlying5 rfl (cv32_8 _)) ?_
  refine X.opw X.wN rfl (X.move (v := .int .u32 _) rfl) ?_
  refine X.opw X.wN rfl (X.shr rfl rfl (by decide) (shr32 _ 24 (by decide))) ?_
  refine X.opw X.wN rfl (X.cvI Tryd.underlying27 Tryd.underlying5 rfl (cv32_8 _)) ?_
  refine X.opE X.wN rfl (X.litKE (K := KB) (xs := [Operand.tmp 4, Operand.tmp 7, Operand.tmp 10, Operand.tmp 13]) (vs := [.int .u8 ((UInt8.ofNat r.toNat).toNat : Int), .int .u8 ((UInt8.ofNat (r >>> 8).toNat).toNat : Int), .int .u8 ((UInt8.ofNat (r >>> 16).toNat).toNat : Int), .int .u8 ((UInt8.ofNat (r >>> 24).toNat).toNat : Int)]) (ys := [UInt8.ofNat r.toNat, UInt8.ofNat (r >>> 8).toNat, UInt8.ofNat (r >>> 16).toNat, UInt8.ofNat (r >>> 24).toNat]) Tryd.underlying22 Tryd.sizeOf5 Tryd.zeroValue5 rfl rfl rfl rfl rfl (repsB [UInt8.ofNat r.toNat, UInt8.ofNat (r >>> 8).toNat, UInt8.ofNat (r >>> 16).toNat, UInt8.ofNat (r >>> 24).toNat])) ?_
  rintro _ w1 ⟨rfl, hs1, hB1, hk1, hz1⟩
  refine X.opw X.wN rfl (X.assign rfl) ?_
  refine X.opsEnd ?_
  refine X.ret1 Tryd.func39 Tryd.results39 rfl ?_
  exact ⟨(Mine.litV (vs := [.int .u8 ((UInt8.ofNat r.toNat).toNat : Int), .int .u8 ((UInt8.ofNat (r >>> 8).toNat).toNat : Int), .int .u8 ((UInt8.ofNat (r >>> 16).toNat).toNat : Int), .int .u8 ((UInt8.ofNat (r >>> 24).toNat).toNat : Int)]) (w0 := w) KB_flat hB1 (repsB [UInt8.ofNat r.toNat, UInt8.ofNat (r >>> 8).toNat, UInt8.ofNat (r >>> 16).toNat, UInt8.ofNat (r >>> 24).toNat]) rfl (by omega) (by intros; (try simp only [] at *); omega)), hk1⟩
-- f32 "pedigree/crc.number" params [22] results [27] -> [(ResultVar.tmp 2)] nfree 0 ntmps 25 names ["b", "b",
set_option maxHeartbeats 4000000 in
set_option maxRecDepth 100000 in
theorem number_c {lo hi : Nat} {A : Option Addr} {n c : Nat} {l : List UInt8} (w : World) (hs : Sl KB lo hi w A n l) (h4 : 4 ≤ n) : Ret Tryd.prog 32 #[.slice A n c] w fun v w' => v = .int .u32 ((numC l).toNat : Int) ∧ Keep w w' := by
  obtain ⟨x0, x1, x2, x3, t, rfl⟩ := four_split hs.len h4
  refine X.enter Tryd.func32 rfl Tryd.ntmps32 rfl ?_
  refine X.seq ?_
  refine X.region ?_
  refine X.opw X.wN rfl (X.assign rfl) ?_
  refine X.opsEnd ?_
  refine X.seq ?_
  refine X.regionD (fun _ => False) 22 (by kernel_rfl) (by kernel_rfl) (fun w1 hk1 hz1 => ?_)
  refine X.dTake 0 rfl (by kernel_rfl) (by kernel_rfl) (by kernel_rfl) (X.dwN rfl) (fun w' hk' => X.move (v := .slice _ _ _) rfl) ?_
  refine X.dTake 1 rfl (by kernel_rfl) (by kernel_rfl) (by kernel_rfl) (X.dwN rfl) (fun w' hk' => X.idxS (hs.keep (hk1.trans hk')) Tryd.underlying22 Tryd.sizeOf5 rfl rfl ⟨by omega, by omega⟩) ?_
  refine X.dTake 2 rfl (by kernel_rfl) (by kernel_rfl) (by kernel_rfl) (X.dwN rfl) (fun w' hk' => X.loadS Tryd.isAgg5 (hs.keep (hk1.trans hk')) (j := 0) rfl rfl (fun _ h => by rw [h.1]; rfl)) ?_
  refine X.dTake 3 rfl (by kernel_rfl) (by kernel_rfl) (by kernel_rfl) (X.dwN rfl) (fun w' hk' => X.cvI Tryd.underlying5 Tryd.underlying27 rfl (cv8_32 _)) ?_
  refine X.dTake 4 rfl (by kernel_rfl) (by kernel_rfl) (by kernel_rfl) (X.dwN rfl) (fun w' hk' => X.move (v := .slice _ _ _) rfl) ?_
  refine X.dTake 5 rfl (by kernel_rfl) (by kernel_rfl) (by kernel_rfl) (X.dwN rfl) (fun w' hk' => X.idxS (hs.keep (hk1.trans hk')) Tryd.underlying22 Tryd.sizeOf5 rfl rfl ⟨by omega, by omega⟩) ?_
  refine X.dTake 6 rfl (by kernel_rfl) (by kernel_rfl) (by kernel_rfl) (X.dwN rfl) (fun w' hk' => X.loadS Tryd.isAgg5 (hs.keep (hk1.trans hk')) (j := 1) rfl rfl (fun _ h => by rw [h.1]; rfl)) ?_
  refine X.dTake 7 rfl (by kernel_rfl) (by kernel_rfl) (by kernel_rfl) (X.dwN rfl) (fun w' hk' => X.cvI Tryd.underlying5 Tryd.underlying27 rfl (cv8_32 _)) ?_
  refine X.dTake 8 rfl (by kernel_rfl) (by kernel_rfl) (by kernel_rfl) (X.dwN rfl) (fun w' hk' => X.shl rfl rfl (by decide) (shl32 _ 8 (by decide))) ?_
  refine X.dTake 9 rfl (by kernel_rfl) (by kernel_rfl) (by kernel_rfl) (X.dwN rfl) (fun w' hk' => X.or_ rfl rfl (or32 _ _)) ?_
  refine X.dTake 10 rfl (by kernel_rfl) (by kernel_rfl) (by kernel_rfl) (X.dwN rfl) (fun w' hk' => X.move (v := .slice _ _ _) rfl) ?_
  refine X.dTake 11 rfl (by kernel_rfl) (by kernel_rfl) (by kernel_rfl) (X.dwN rfl) (fun w' hk' => X.idxS (hs.keep (hk1.trans hk')) Tryd.underlying22 Tryd.sizeOf5 rfl rfl ⟨by omega, by omega⟩) ?_
  refine X.dTake 12 rfl (by kernel_rfl) (by kernel_rfl) (by kernel_rfl) (X.dwN rfl) (fun w' hk' => X.loadS Tryd.isAgg5 (hs.keep (hk1.trans hk')) (j := 2) rfl rfl (fun _ h => by rw [h.1]; rfl)) ?_
  refine X.dTake 13 rfl (by kernel_rfl) (by kernel_rfl) (by kernel_rfl) (X.dwN rfl) (fun w' hk' => X.cvI Tryd.underlying5 Tryd.underlying27 rfl (cv8_32 _)) ?_
  refine X.dTake 14 rfl (by kernel_rfl) (by kernel_rfl) (by kernel_rfl) (X.dwN rfl) (fun w' hk' => X.shl rfl rfl (by decide) (shl32 _ 16 (by decide))) ?_
  refine X.dTake 15 rfl (by kernel_rfl) (by kernel_rfl) (by kernel_rfl) (X.dwN rfl) (fun w' hk' => X.or_ rfl rfl (or32 _ _)) ?_
  refine X.dTake 16 rfl (by kernel_rfl) (by kernel_rfl) (by kernel_rfl) (X.dwN rfl) (fun w' hk' => X.move (v := .slice _ _ _) rfl) ?_
  refine X.dTake 17 rfl (by kernel_rfl) (by kernel_rfl) (by kernel_rfl) (X.dwN rfl) (fun w' hk' => X.idxS (hs.keep (hk1.trans hk')) Tryd.underlying22 Tryd.sizeOf5 rfl rfl ⟨by omega, by omega⟩) ?_
  refine X.dTake 18 rfl (by kernel_rfl) (by kernel_rfl) (by kernel_rfl) (X.dwN rfl) (fun w' hk' => X.loadS Tryd.isAgg5 (hs.keep (hk1.trans hk')) (j := 3) rfl rfl (fun _ h => by rw [h.1]; rfl)) ?_
  refine X.dTake 19 rfl (by kernel_rfl) (by kernel_rfl) (by kernel_rfl) (X.dwN rfl) (fun w' hk' => X.cvI Tryd.underlying5 Tryd.underlying27 rfl (cv8_32 _)) ?_
  refine X.dTake 20 rfl (by kernel_rfl) (by kernel_rfl) (by kernel_rfl) (X.dwN rfl) (fun w' hk' => X.shl rfl rfl (by decide) (shl32 _ 24 (by decide))) ?_
  refine X.dTake 21 rfl (by kernel_rfl) (by kernel_rfl) (by kernel_rfl) (X.dwN rfl) (fun w' hk' => X.or_ rfl rfl (or32 _ _)) ?_
  refine X.dStep (i := 22) (by kernel_rfl) rfl (X.dwN rfl) (X.assign (v := .int .u32 _) rfl) (fun h => absurd h (by decide)) ?_
  refine X.dEnd (by kernel_rfl) ?_
  refine X.ret1 (v := (.int .u32 _)) Tryd.func32 Tryd.results32 rfl ?_
  exact ⟨rfl, hk1⟩
-- f34 "pedigree/pedigreeref04.get" params [22] results [27] -> [(ResultVar.tmp 2)] nfree 0 ntmps 25 names ["b
set_option maxHeartbeats 4000000 in
set_option maxRecDepth 100000 in
theorem get_c {lo hi : Nat} {A : Option Addr} {n c : Nat} {l : List UInt8} (w : World) (hs : Sl KB lo hi w A n l) (h4 : 4 ≤ n) : Ret Tryd.prog 34 #[.slice A n c] w fun v w' => v = .int .u32 ((numC l).toNat : Int) ∧ Keep w w' := by
  obtain ⟨x0, x1, x2, x3, t, rfl⟩ := four_split hs.len h4
  refine X.enter Tryd.func34 rfl Tryd.ntmps34 rfl ?_
  refine X.seq ?_
  refine X.region ?_
  refine X.opw X.wN rfl (X.assign rfl) ?_
  refine X.opsEnd ?_
  refine X.seq ?_
  refine X.regionD (fun _ => False) 22 (by kernel_rfl) (by kernel_rfl) (fun w1 hk1 hz1 => ?_)
  refine X.dTake 0 rfl (by kernel_rfl) (by kernel_rfl) (by kernel_rfl) (X.dwN rfl) (fun w' hk' => X.move (v := .slice _ _ _) rfl) ?_
  refine X.dTake 1 rfl (by kernel_rfl) (by kernel_rfl) (by kernel_rfl) (X.dwN rfl) (fun w' hk' => X.idxS (hs.keep (hk1.trans hk')) Tryd.underlying22 Tryd.sizeOf5 rfl rfl ⟨by omega, by omega⟩) ?_
  refine X.dTake 2 rfl (by kernel_rfl) (by kernel_rfl) (by kernel_rfl) (X.dwN rfl) (fun w' hk' => X.loadS Tryd.isAgg5 (hs.keep (hk1.trans hk')) (j := 0) rfl rfl (fun _ h => by rw [h.1]; rfl)) ?_
  refine X.dTake 3 rfl (by kernel_rfl) (by kernel_rfl) (by kernel_rfl) (X.dwN rfl) (fun w' hk' => X.cvI Tryd.underlying5 Tryd.underlying27 rfl (cv8_32 _)) ?_
  refine X.dTake 4 rfl (by kernel_rfl) (by kernel_rfl) (by kernel_rfl) (X.dwN rfl) (fun w' hk' => X.move (v := .slice _ _ _) rfl) ?_
  refine X.dTake 5 rfl (by kernel_rfl) (by kernel_rfl) (by kernel_rfl) (X.dwN rfl) (fun w' hk' => X.idxS (hs.keep (hk1.trans hk')) Tryd.underlying22 Tryd.sizeOf5 rfl rfl ⟨by omega, by omega⟩) ?_
  refine X.dTake 6 rfl (by kernel_rfl) (by kernel_rfl) (by kernel_rfl) (X.dwN rfl) (fun w' hk' => X.loadS Tryd.isAgg5 (hs.keep (hk1.trans hk')) (j := 1) rfl rfl (fun _ h => by rw [h.1]; rfl)) ?_
  refine X.dTake 7 rfl (by kernel_rfl) (by kernel_rfl) (by kernel_rfl) (X.dwN rfl) (fun w' hk' => X.cvI Tryd.underlying5 Tryd.underlying27 rfl (cv8_32 _)) ?_
  refine X.dTake 8 rfl (by kernel_rfl) (by kernel_rfl) (by kernel_rfl) (X.dwN rfl) (fun w' hk' => X.shl rfl rfl (by decide) (shl32 _ 8 (by decide))) ?_
  refine X.dTake 9 rfl (by kernel_rfl) (by kernel_rfl) (by kernel_rfl) (X.dwN rfl) (fun w' hk' => X.or_ rfl rfl (or32 _ _)) ?_
  refine X.dTake 10 rfl (by kernel_rfl) (by kernel_rfl) (by kernel_rfl) (X.dwN rfl) (fun w' hk' => X.move (v := .slice _ _ _) rfl) ?_
  refine X.dTake 11 rfl (by kernel_rfl) (by kernel_rfl) (by kernel_rfl) (X.dwN rfl) (fun w' hk' => X.idxS (hs.keep (hk1.trans hk')) Tryd.underlying22 Tryd.sizeOf5 rfl rfl ⟨by omega, by omega⟩) ?_
  refine X.dTake 12 rfl (by kernel_rfl) (by kernel_rfl) (by kernel_rfl) (X.dwN rfl) (fun w' hk' => X.loadS Tryd.isAgg5 (hs.keep (hk1.trans hk')) (j := 2) rfl rfl (fun _ h => by rw [h.1]; rfl)) ?_
  refine X.dTake 13 rfl (by kernel_rfl) (by kernel_rfl) (by kernel_rfl) (X.dwN rfl) (fun w' hk' => X.cvI Tryd.underlying5 Tryd.underlying27 rfl (cv8_32 _)) ?_
  refine X.dTake 14 rfl (by kernel_rfl) (by kernel_rfl) (by kernel_rfl) (X.dwN rfl) (fun w' hk' => X.shl rfl rfl (by decide) (shl32 _ 16 (by decide))) ?_
  refine X.dTake 15 rfl (by kernel_rfl) (by kernel_rfl) (by kernel_rfl) (X.dwN rfl) (fun w' hk' => X.or_ rfl rfl (or32 _ _)) ?_
  refine X.dTake 16 rfl (by kernel_rfl) (by kernel_rfl) (by kernel_rfl) (X.dwN rfl) (fun w' hk' => X.move (v := .slice _ _ _) rfl) ?_
  refine X.dTake 17 rfl (by kernel_rfl) (by kernel_rfl) (by kernel_rfl) (X.dwN rfl) (fun w' hk' => X.idxS (hs.keep (hk1.trans hk')) Tryd.underlying22 Tryd.sizeOf5 rfl rfl ⟨by omega, by omega⟩) ?_
  refine X.dTake 18 rfl (by kernel_rfl) (by kernel_rfl) (by kernel_rfl) (X.dwN rfl) (fun w' hk' => X.loadS Tryd.isAgg5 (hs.keep (hk1.trans hk')) (j := 3) rfl rfl (fun _ h => by rw [h.1]; rfl)) ?_
  refine X.dTake 19 rfl (by kernel_rfl) (by kernel_rfl) (by kernel_rfl) (X.dwN rfl) (fun w' hk' => X.cvI Tryd.underlying5 Tryd.underlying27 rfl (cv8_32 _)) ?_
  refine X.dTake 20 rfl (by kernel_rfl) (by kernel_rfl) (by kernel_rfl) (X.dwN rfl) (fun w' hk' => X.shl rfl rfl (by decide) (shl32 _ 24 (by decide))) ?_
  refine X.dTake 21 rfl (by kernel_rfl) (by kernel_rfl) (by kernel_rfl) (X.dwN rfl) (fun w' hk' => X.or_ rfl rfl (or32 _ _)) ?_
  refine X.dStep (i := 22) (by kernel_rfl) rfl (X.dwN rfl) (X.assign (v := .int .u32 _) rfl) (fun h => absurd h (by decide)) ?_
  refine X.dEnd (by kernel_rfl) ?_
  refine X.ret1 (v := (.int .u32 _)) Tryd.func34 Tryd.results34 rfl ?_
  exact ⟨rfl, hk1⟩
-- f43 "slices.Grow[[]byte,byte]" params [22, 3] results [22] -> [(ResultVar.tmp 4)] nfree 0 ntmps 27 names ["
set_option maxHeartbeats 4000000 in
set_option maxRecDepth 100000 in
theorem Grow_c (m : Int) (h0 : 0 ≤ m) (h1 : m ≤ 100000000) (w : World) : Ret Tryd.prog 43 #[.slice none 0 0, .int .i64 m] w fun v w' => Fresh KB 5 w w' v [] := by
  refine X.enter Tryd.func43 rfl Tryd.ntmps43 rfl ?_
  refine X.seq ?_
  refine X.region ?_
  refine X.opw X.wN rfl (X.assign rfl) ?_
  refine X.opsEnd ?_
  refine X.seq ?_
  refine X.seq ?_
  refine X.region ?_
  refine X.opw X.wN rfl (X.move (v := .int .i64 _) rfl) ?_
  refine X.opP X.wN rfl rfl (X.lss rfl rfl) (fun h6 => ?_) (fun h6 => ?_)
  · omega
  · refine X.opsEnd ?_
    refine X.condF rfl ?_
    refine X.skip ?_
    refine X.seq ?_
    refine X.seq ?_
    refine X.region ?_
    refine X.opw X.wN rfl (X.move (v := .int .i64 _) rfl) ?_
    refine X.opw X.wN rfl (X.move rfl) ?_
    refine X.opw X.wN rfl (X.capSl Tryd.underlying22 rfl) ?_
    refine X.opw X.wN rfl (X.move rfl) ?_
    refine X.opw X.wN rfl (X.lenSl Tryd.underlying22 rfl) ?_
    refine X.opw X.wN rfl (X.sub rfl rfl (X.w_i64 (by omega))) ?_
    refine X.opw X.wN rfl (X.sub rfl rfl (X.w_i64 (by omega))) ?_
    refine X.opw X.wN rfl (X.assign (v := .int .i64 _) rfl) ?_
    refine X.opsEnd ?_
    refine X.seq ?_
    refine X.region ?_
    refine X.opw X.wN rfl (X.move (v := .int .i64 _) rfl) ?_
    refine X.opP X.wN rfl rfl (X.gtr rfl rfl) (fun h16 => ?_) (fun h16 => ?_)
    · refine X.opsEnd ?_
      refine X.condT rfl ?_
      refine X.region ?_
      refine X.opw X.wN rfl (X.move rfl) ?_
      refine X.opw X.wN rfl (X.move rfl) ?_
      refine X.opw X.wN rfl (X.capSl Tryd.underlying22 rfl) ?_
      refine X.opw X.wN rfl (X.cutHr Tryd.underlying22 Tryd.sizeOf5 rfl rfl (by omega)) ?_
      refine X.opw X.wN rfl (X.move (v := .int .i64 _) rfl) ?_
      refine X.opE X.wN rfl (X.appMkE Tryd.underlying22 Tryd.underlying3 E8 rfl rfl (by omega) (by omega)) ?_
      rintro _ w1 ⟨cap1, rfl, hcap1, hN1, hk1, hz1⟩
      refine X.opw X.wN rfl (X.move rfl) ?_
      refine X.opw X.wN rfl (X.lenSl Tryd.underlying22 rfl) ?_
      refine X.opw X.wN rfl (X.cutHr Tryd.underlying22 Tryd.sizeOf5 rfl rfl (by omega)) ?_
      refine X.opw X.wN rfl (X.assign rfl) ?_
      refine X.opsEnd ?_
      refine X.seq ?_
      refine X.region ?_
      refine X.opw X.wN rfl (X.move rfl) ?_
      refine X.opw X.wN rfl (X.assign rfl) ?_
      refine X.opsEnd ?_
      refine X.ret1 Tryd.func43 Tryd.results43 rfl ?_
      exact ⟨(X.NewRow.mine (K := KB) hN1 (by intros; (try simp only [] at *); omega)), hk1⟩
    · refine X.opsEnd ?_
      refine X.condF rfl ?_
      refine X.skip ?_
      refine X.seq ?_
      refine X.region ?_
      refine X.opw X.wN rfl (X.move rfl) ?_
      refine X.opw X.wN rfl (X.assign rfl) ?_
      refine X.opsEnd ?_
      refine X.ret1 Tryd.func43 Tryd.results43 rfl ?_
      exact ⟨(Mine.nil KB 5 (fun k => w.heap.size ≤ k) 0 0 w), (Keep.refl _)⟩
-- f33 "slices.Clone[[]byte,byte]" params [22] results [22] -> [(ResultVar.tmp 2)] nfree 0 ntmps 8 names ["s",
set_option maxHeartbeats 4000000 in
set_option maxRecDepth 100000 in
theorem Clone_c {lo hi : Nat} {A : Option Addr} {n c : Nat} {l : List UInt8} (w : World) (hs : Sl KB lo hi w A n l) (hn : n ≤ 100000000) : Ret Tryd.prog 33 #[.slice A n c] w fun r w' => Fresh KB 5 w w' r l := by
  have hl := hs.len
  refine X.enter Tryd.func33 rfl Tryd.ntmps33 rfl ?_
  refine X.seq ?_
  refine X.region ?_
  refine X.opw X.wN rfl (X.assign rfl) ?_
  refine X.opsEnd ?_
  refine X.seq ?_
  refine X.seq ?_
  refine X.region ?_
  refine X.opw X.wN rfl (X.move (v := .slice _ _ _) rfl) ?_
  refine X.opB X.wN rfl rfl (X.eqNil Tryd.underlying22 rfl rfl) (fun h4 => ?_) (fun h4 => ?_)
  · refine X.opsEnd ?_
    refine X.condT rfl ?_
    refine X.seq ?_
    refine X.region ?_
    refine X.opw X.wN rfl (X.assign rfl) ?_
    refine X.opsEnd ?_
    refine X.ret1 Tryd.func33 Tryd.results33 rfl ?_
    refine ⟨?_, (Keep.refl _)⟩
    rcases Nat.eq_zero_or_pos n with h | h
    · have hq : l = [] := List.eq_nil_of_length_eq_zero (by omega)
      subst hq; exact (Mine.nil _ _ _ _ _ _)
    · obtain ⟨ad, e, _⟩ := hs.at_ h
      subst e; simp at h4
  · refine X.opsEnd ?_
    refine X.condF rfl ?_
    refine X.skip ?_
    refine X.seq ?_
    refine X.region ?_
    refine X.opE X.wN rfl (X.lit0E (K := KB) (S := fun k => w.heap.size ≤ k) Tryd.underlying22 Tryd.sizeOf5 (by intros; (try simp only [] at *); omega)) ?_
    rintro v1 w1 ⟨hM1, hk1, hz1⟩
    refine X.opw X.wN rfl (X.move (v := .slice _ _ _) rfl) ?_
    refine X.opE X.wN rfl (X.appE (K := KB) (S := fun k => w.heap.size ≤ k) KB_flat Tryd.underlying22 E8 rfl rfl hM1 (hs.keep hk1) (by (try simp only [List.length_append, List.length_cons, List.length_nil, List.length_take, List.length_drop, List.length_map, List.length_range]); omega) (by intros; (try simp only [] at *); omega)) ?_
    rintro v2 w2 ⟨hM2, hx2⟩
    have hx2' := hx2.size
    refine X.opw X.wN rfl (X.assign rfl) ?_
    refine X.opsEnd ?_
    refine X.ret1 Tryd.func33 Tryd.results33 rfl ?_
    exact ⟨hM2, (hk1.step hx2 (by intros; (try simp only [] at *); omega))⟩
theorem flat_at {ls : List (List UInt8)} {i : Nat} {x : List UInt8} (h : ls[i]? = some x) : (ls.take (i + 1)).flatten = (ls.take i).flatten ++ x := by
  rw [take_at h, List.flatten_append]; simp
theorem flat_le {ls : List (List UInt8)} {i : Nat} {x : List UInt8} (h : ls[i]? = some x) : (ls.take i).flatten.length + x.length ≤ ls.flatten.length := by
  have e : ls.flatten = (ls.take (i + 1)).flatten ++ (ls.drop (i + 1)).flatten := by rw [← List.flatten_append, List.take_append_drop]
  rw [e, flat_at h]; simp
-- f37 "slices.Concat[[]byte,byte]" params [38] results [22] -> [(ResultVar.tmp 2)] nfree 0 ntmps 36 names ["s
set_option maxHeartbeats 4000000 in
set_option maxRecDepth 100000 in
theorem Concat_c {lo hi lo2 hi2 : Nat} {A : Option Addr} {n c : Nat} {vs : List Value} {ls : List (List UInt8)} (w : World) (hs : Sl KR1 lo hi w A n vs) (hr : SlRows KB lo2 hi2 w vs ls) (hn : ls.flatten.length ≤ 10000000) : Ret Tryd.prog 37 #[.slice A n c] w fun r w' => Fresh KB 5 w w' r ls.flatten := by
  have hl := hs.len
  have hll := hr.len
  have hbd := hs.bound
  refine X.enter Tryd.func37 rfl Tryd.ntmps37 rfl ?_
  refine X.seq ?_
  refine X.region ?_
  refine X.opw X.wN rfl (X.assign rfl) ?_
  refine X.opsEnd ?_
  refine X.seq ?_
  refine X.region ?_
  refine X.opw X.wN rfl (X.assign rfl) ?_
  refine X.opsEnd ?_
  refine X.seq ?_
  refine X.seq ?_
  refine X.region ?_
  refine X.opw X.wN rfl (X.move (v := .slice _ _ _) rfl) ?_
  refine X.opw X.wN rfl (X.lenSl Tryd.underlying38 rfl) ?_
  refine X.opw X.wN rfl (X.move rfl) ?_
  refine X.opsEnd ?_
  refine X.block ?_
  -- LOOP live: 0=slices, 3=size*, 9, 10, 11*
  refine X.loopL (σ := Nat) (fun s => [(0, .slice A n c), (3, .int .i64 (((ls.take s).flatten.length : Nat) : Int)), (9, .slice A n c), (10, .int .i64 (n : Int)), (11, .int .i64 (s : Int))]) (fun s w' => s ≤ n ∧ Keep w w') (fun s => n - s) 0 ⟨rfl, rfl, rfl, rfl, rfl, trivial⟩ ⟨by simp, (Keep.refl _)⟩ ?_
  rintro i b wl ⟨hi0, hk⟩ hback
  have hk' := hk.size
  refine X.seq ?_
  refine X.region ?_
  refine X.opP X.wN rfl rfl (X.lss rfl rfl) (fun h12 => ?_) (fun h12 => ?_)
  · obtain ⟨y, hx⟩ := getN i hl h12
    obtain ⟨x, A1, n1, c1, hy2, rfl, hc1, hs1⟩ := hr.get hx
    have hfl := flat_le hy2
    have hs1l := hs1.len
    refine X.opsEnd ?_
    refine X.seq ?_
    refine X.condT rfl ?_
    refine X.skip ?_
    refine X.seq ?_
    refine X.block ?_
    refine X.seq ?_
    refine X.region ?_
    refine X.opw X.wN rfl (X.idxS (hs.keep hk) Tryd.underlying38 Tryd.sizeOf22 rfl rfl ⟨by omega, by omega⟩) ?_
    refine X.opw X.wN rfl (X.loadS Tryd.isAgg22 (hs.keep hk) hx rfl (fun _ h => by rw [h.1]; rfl)) ?_
    refine X.opw X.wN rfl (X.assign rfl) ?_
    refine X.opsEnd ?_
    refine X.seq ?_
    refine X.region ?_
    refine X.opw X.wN rfl (X.move (v := .int .i64 _) rfl) ?_
    refine X.opw X.wN rfl (X.move rfl) ?_
    refine X.opw X.wN rfl (X.lenSl Tryd.underlying22 rfl) ?_
    refine X.opw X.wN rfl (X.add (c := (((ls.take (i + 1)).flatten.length : Nat) : Int)) rfl rfl (by rw [flat_at hy2, List.length_append, X.w_i64 (by omega)]; omega)) ?_
    refine X.opw X.wN rfl (X.assign (v := .int .i64 _) rfl) ?_
    refine X.opsEnd ?_
    refine X.seq ?_
    refine X.region ?_
    refine X.opw X.wN rfl (X.move (v := .int .i64 _) rfl) ?_
    refine X.opP X.wN rfl rfl (X.lss rfl rfl) (fun h20 => ?_) (fun h20 => ?_)
    · omega
    · refine X.opsEnd ?_
      refine X.condF rfl ?_
      refine X.skip ?_
      refine X.inBlock ?_
      refine X.region ?_
      refine X.opw X.wN rfl (X.add rfl rfl (X.w_i64 (by omega))) ?_
      refine X.opw X.wN rfl (X.move (v := .int .i64 _) rfl) ?_
      refine X.opsEnd ?_
      refine hback (i + 1) _ _ ⟨rfl, rfl, rfl, rfl, rfl, trivial⟩ ⟨by omega, hk⟩ (by omega)
  · have hfe : (ls.take i).flatten.length = ls.flatten.length := by rw [List.take_of_length_le (by omega)]
    refine X.opsEnd ?_
    refine X.seq ?_
    refine X.condF rfl ?_
    refine X.exit rfl ?_
    refine X.seq ?_
    refine X.region ?_
    refine X.opw X.wN rfl (X.move (v := .int .i64 _) rfl) ?_
    refine X.opE X.wN rfl (X.callE (Grow_c _ (by omega) (by omega) _) Tryd.call43 rfl rfl) ?_
    rintro v1 w1 ⟨hM1, hk1⟩
    have hk1' := hk1.size
    refine X.opw X.wN rfl (X.assign rfl) ?_
    refine X.opsEnd ?_
    refine X.seq ?_
    refine X.seq ?_
    refine X.region ?_
    refine X.opw X.wN rfl (X.move (v := .slice _ _ _) rfl) ?_
    refine X.opw X.wN rfl (X.lenSl Tryd.underlying38 rfl) ?_
    refine X.opw X.wN rfl (X.move rfl) ?_
    refine X.opsEnd ?_
    refine X.block ?_
    -- LOOP live: 6=newslice*, 25, 26, 27*
    refine X.loopL (σ := Nat × Value) (fun s => [(6, s.2), (25, .slice A n c), (26, .int .i64 (n : Int)), (27, .int .i64 (s.1 : Int))]) (fun s w' => s.1 ≤ n ∧ Mine KB 5 (fun k => w.heap.size ≤ k) 0 0 w' s.2 (ls.take s.1).flatten ∧ Keep w w') (fun s => n - s.1) (0, _) ⟨rfl, rfl, rfl, rfl, trivial⟩ ⟨by simp, by dsimp only; exact hM1.step (fun k h => by (try simp only [] at *); omega), (hk.trans hk1)⟩ ?_
    rintro ⟨i, v⟩ b wl ⟨hi0, hM, hk⟩ hback
    dsimp only
    simp only at hi0 hM
    have hk' := hk.size
    refine X.seq ?_
    refine X.region ?_
    refine X.opP X.wN rfl rfl (X.lss rfl rfl) (fun h28 => ?_) (fun h28 => ?_)
    · obtain ⟨y, hx⟩ := getN i hl h28
      obtain ⟨x, A1, n1, c1, hy2, rfl, hc1, hs1⟩ := hr.get hx
      have hfl := flat_le hy2
      have hs1l := hs1.len
      refine X.opsEnd ?_
      refine X.seq ?_
      refine X.condT rfl ?_
      refine X.skip ?_
      refine X.seq ?_
      refine X.block ?_
      refine X.seq ?_
      refine X.region ?_
      refine X.opw X.wN rfl (X.idxS (hs.keep hk) Tryd.underlying38 Tryd.sizeOf22 rfl rfl ⟨by omega, by omega⟩) ?_
      refine X.opw X.wN rfl (X.loadS Tryd.isAgg22 (hs.keep hk) hx rfl (fun _ h => by rw [h.1]; rfl)) ?_
      refine X.opw X.wN rfl (X.assign (v := .slice _ _ _) rfl) ?_
      refine X.opsEnd ?_
      refine X.region ?_
      refine X.opw X.wN rfl (X.move rfl) ?_
      refine X.opw X.wN rfl (X.move (v := .slice _ _ _) rfl) ?_
      refine X.opE X.wN rfl (X.appE (K := KB) (S := fun k => w.heap.size ≤ k) KB_flat Tryd.underlying22 E8 rfl rfl hM (hs1.keep hk) (by (try simp only [List.length_append, List.length_cons, List.length_nil, List.length_take, List.length_drop, List.length_map, List.length_range]); omega) (by intros; (try simp only [] at *); omega)) ?_
      rintro v2 w2 ⟨hM2, hx2⟩
      have hx2' := hx2.size
      refine X.opw X.wN rfl (X.assign rfl) ?_
      refine X.opsEnd ?_
      refine X.inBlock ?_
      refine X.region ?_
      refine X.opw X.wN rfl (X.add rfl rfl (X.w_i64 (by omega))) ?_
      refine X.opw X.wN rfl (X.move (v := .int .i64 _) rfl) ?_
      refine X.opsEnd ?_
      refine hback (i + 1, _) _ _ ⟨rfl, rfl, rfl, rfl, trivial⟩ ⟨by dsimp only; omega, by dsimp only; rw [flat_at hy2]; exact hM2, (hk.step hx2 (by intros; (try simp only [] at *); omega))⟩ (by dsimp only; omega)
    · refine X.opsEnd ?_
      refine X.seq ?_
      refine X.condF rfl ?_
      refine X.exit rfl ?_
      refine X.seq ?_
      refine X.region ?_
      refine X.opw X.wN rfl (X.move rfl) ?_
      refine X.opw X.wN rfl (X.assign rfl) ?_
      refine X.opsEnd ?_
      refine X.ret1 Tryd.func37 Tryd.results37 rfl ?_
      refine ⟨?_, hk⟩
      rw [List.take_of_length_le (by omega)] at hM
      exact hM
end Go.Proofs.YtleaidgngkfjbaaDoor
