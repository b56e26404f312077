/- The walk of the law CrcLong. -/
import Derived.Test.YtleaidgngkfjbaaDoorCrcM
namespace Go.Proofs.YtleaidgngkfjbaaDoor
open Go Go.Proofs.YtleaidgngkfjbaaDoor.X
set_option linter.unusedVariables false
set_option linter.unusedSimpArgs false

theorem shrI (a k : Nat) (hk : k ≤ 32) : ((a : Nat) : Int).fdiv (2 ^ (min ((k : Int)).toNat IntKind.i64.bits)) = ((a / 2 ^ k : Nat) : Int) := by
  have h : min ((k : Int)).toNat IntKind.i64.bits = k := by show min ((k : Int)).toNat 64 = k; omega
  have e : (2 : Int) ^ k = ((2 ^ k : Nat) : Int) := by rw [Int.natCast_pow]; rfl
  rw [h, e, Int.fdiv_eq_ediv_of_nonneg _ (Int.natCast_nonneg _)]
  rfl
theorem cvk (a k : Nat) (ha : a < 4294967296) : IntKind.u8.wrap ((a / 2 ^ k : Nat) : Int) = ((UInt8.ofNat ((BitVec.ofNat 32 a) >>> k).toNat).toNat : Int) := by
  rw [u8_wrap, UInt8.toNat_ofNat', BitVec.toNat_ushiftRight, BitVec.toNat_ofNat, Nat.shiftRight_eq_div_pow, Nat.mod_eq_of_lt (show a < 2 ^ 32 from ha)]
  omega
theorem cvk0 (a : Nat) (ha : a < 4294967296) : IntKind.u8.wrap ((a : Nat) : Int) = ((UInt8.ofNat (BitVec.ofNat 32 a).toNat).toNat : Int) := by
  rw [u8_wrap, UInt8.toNat_ofNat', BitVec.toNat_ofNat, Nat.mod_eq_of_lt (show a < 2 ^ 32 from ha)]
  omega
theorem f_long (k : UInt8) : (frameC k (List.replicate 1048577 0)).1 = 2 := by
  rw [frameC, if_pos (by rw [List.length_replicate]; omega)]
-- f4 "pedigree/pedigreelaw04.CrcLong" params [5, 5] results [4] -> [(ResultVar.tmp 4)] nfree 0 ntmps 53 names
set_option maxHeartbeats 4000000 in
set_option maxRecDepth 100000 in
theorem CrcLong_c (w : World) (hT : TabOk w) (n : UInt8) (g1 : True) (kind : UInt8) (g2 : True) :
    Ret Tryd.prog 4 #[.int .u8 (n.toNat : Int), .int .u8 (kind.toNat : Int)] w fun r w' => r = .bool true ∧ Keep w w' := by
  have hn := n.toNat_lt
  have hTl := hT.lt
  have hsl := seal_len
  refine X.enter Tryd.func4 rfl Tryd.ntmps4 rfl ?_
  refine X.seq ?_
  refine X.region ?_
  refine X.opw X.wN rfl (X.assign rfl) ?_
  refine X.opsEnd ?_
  refine X.seq ?_
  refine X.seq ?_
  refine X.region ?_
  refine X.opE X.wN rfl (X.callE (awake_c _ (hT.keep (Keep.refl _))) Tryd.call17 rfl rfl) ?_
  rintro _ w1 ⟨rfl, hk1⟩
  have hk1' := hk1.size
  refine X.opw X.wN rfl (X.not_ rfl) ?_
  refine X.opsEnd ?_
  refine X.condB rfl (fun hc => ?_) (fun hc => ?_)
  · cases hc
  · refine X.skip ?_
    refine X.seq ?_
    refine X.region ?_
    refine X.opw X.wN rfl (X.move (v := .int .u8 _) rfl) ?_
    refine X.opE X.wN rfl (X.mkB (n := 1048577) (S := fun k => w.heap.size ≤ k) Tryd.underlying22 E8b rfl rfl (by omega) (by intros; (try simp only [] at *); omega)) ?_
    rintro _ w2 ⟨rfl, hs2, hM2, hk2⟩
    have hk2' := hk2.size
    refine X.opw X.wN rfl (X.buildB (vs := [(0, .int .u8 (kind.toNat : Int)), (1, .slice (some ⟨w1.heap.size, 0, none⟩) 1048577 1048577)]) (cs := #[.int .u8 (kind.toNat : Int), .slice (some ⟨w1.heap.size, 0, none⟩) 1048577 1048577]) rfl (by kernel_rfl)) ?_
    refine X.opE X.wN rfl (X.callE ((Frame_c kind _ hs2 (by omega) (by omega) (by omega) (hT.keep (hk1.trans hk2))).mono fresh2) Tryd.call18 rfl rfl) ?_
    rintro _ w3 ⟨A3, c3, rfl, hc3, hs3, hM3, hk3⟩
    have hk3' := hk3.size
    refine X.opw X.wN rfl (X.move rfl) ?_
    refine X.opw X.wN rfl (X.extr rfl rfl) ?_
    refine X.opw X.wN rfl (X.extr rfl rfl) ?_
    refine X.opw X.wN rfl (X.assign rfl) ?_
    refine X.opw X.wN rfl (X.assign (v := .int .i64 _) rfl) ?_
    refine X.opsEnd ?_
    refine X.seq ?_
    refine X.region ?_
    refine X.opw X.wN rfl (X.move (v := .int .u8 _) rfl) ?_
    refine X.opw X.wN rfl (X.cvI Tryd.underlying5 Tryd.underlying3 rfl (X.w_i64 (by omega))) ?_
    refine X.opw X.wN rfl (X.add (c := (((1048577 + n.toNat) : Nat) : Int)) rfl rfl (by rw [X.w_i64 (by omega)]; omega)) ?_
    refine X.opw X.wN rfl (X.assign (v := .int .i64 _) rfl) ?_
    refine X.opsEnd ?_
    refine X.seq ?_
    refine X.region ?_
    refine X.opw X.wN rfl (X.move (v := .int .u8 _) rfl) ?_
    refine X.opw X.wN rfl (X.move (v := .int .i64 _) rfl) ?_
    refine X.opw X.wN rfl (X.cvI Tryd.underlying3 Tryd.underlying5 rfl (cvk0 _ (by omega))) ?_
    refine X.opw X.wN rfl (X.move (v := .int .i64 _) rfl) ?_
    refine X.opw X.wN rfl (X.shr (c := (((1048577 + n.toNat) / 2 ^ 8 : Nat) : Int)) rfl rfl (by decide) (shrI (1048577 + n.toNat) 8 (by decide))) ?_
    refine X.opw X.wN rfl (X.cvI Tryd.underlying3 Tryd.underlying5 rfl (cvk _ 8 (by omega))) ?_
    refine X.opw X.wN rfl (X.move (v := .int .i64 _) rfl) ?_
    refine X.opw X.wN rfl (X.shr (c := (((1048577 + n.toNat) / 2 ^ 16 : Nat) : Int)) rfl rfl (by decide) (shrI (1048577 + n.toNat) 16 (by decide))) ?_
    refine X.opw X.wN rfl (X.cvI Tryd.underlying3 Tryd.underlying5 rfl (cvk _ 16 (by omega))) ?_
    refine X.opw X.wN rfl (X.move (v := .int .i64 _) rfl) ?_
    refine X.opw X.wN rfl (X.shr (c := (((1048577 + n.toNat) / 2 ^ 24 : Nat) : Int)) rfl rfl (by decide) (shrI (1048577 + n.toNat) 24 (by decide))) ?_
    refine X.opw X.wN rfl (X.cvI Tryd.underlying3 Tryd.underlying5 rfl (cvk _ 24 (by omega))) ?_
    refine X.opE X.wN rfl (X.litKE (K := KB) (xs := [Operand.tmp 24, Operand.tmp 26, Operand.tmp 29, Operand.tmp 32, Operand.tmp 35]) (vs := [.int .u8 ((kind).toNat : Int), .int .u8 ((UInt8.ofNat (BitVec.ofNat 32 (1048577 + n.toNat)).toNat).toNat : Int), .int .u8 ((UInt8.ofNat ((BitVec.ofNat 32 (1048577 + n.toNat)) >>> 8).toNat).toNat : Int), .int .u8 ((UInt8.ofNat ((BitVec.ofNat 32 (1048577 + n.toNat)) >>> 16).toNat).toNat : Int), .int .u8 ((UInt8.ofNat ((BitVec.ofNat 32 (1048577 + n.toNat)) >>> 24).toNat).toNat : Int)]) (ys := [kind, UInt8.ofNat (BitVec.ofNat 32 (1048577 + n.toNat)).toNat, UInt8.ofNat ((BitVec.ofNat 32 (1048577 + n.toNat)) >>> 8).toNat, UInt8.ofNat ((BitVec.ofNat 32 (1048577 + n.toNat)) >>> 16).toNat, UInt8.ofNat ((BitVec.ofNat 32 (1048577 + n.toNat)) >>> 24).toNat]) Tryd.underlying22 Tryd.sizeOf5 Tryd.zeroValue5 rfl rfl rfl rfl rfl (repsB [kind, UInt8.ofNat (BitVec.ofNat 32 (1048577 + n.toNat)).toNat, UInt8.ofNat ((BitVec.ofNat 32 (1048577 + n.toNat)) >>> 8).toNat, UInt8.ofNat ((BitVec.ofNat 32 (1048577 + n.toNat)) >>> 16).toNat, UInt8.ofNat ((BitVec.ofNat 32 (1048577 + n.toNat)) >>> 24).toNat])) ?_
    rintro _ w4 ⟨rfl, hs4, hB4, hk4, hz4⟩
    refine X.opE X.wN rfl (X.callE ((RSeal_c _ hs4 (by (try simp only [hsl, List.length_replicate, List.length_append, List.length_cons, List.length_nil, List.length_take, List.length_drop, List.length_map, List.length_range]); omega)).mono freshB) Tryd.call16 rfl rfl) ?_
    rintro _ w5 ⟨A5, c5, rfl, hc5, hs5, hM5, hk5⟩
    have hk5' := hk5.size
    refine X.opw X.wN rfl (X.assign rfl) ?_
    refine X.opsEnd ?_
    refine X.seq ?_
    refine X.region ?_
    refine X.opw X.wN rfl (X.move rfl) ?_
    refine X.opw X.wN rfl (X.move (v := .int .u8 _) rfl) ?_
    refine X.opw X.wN rfl (X.cvI Tryd.underlying5 Tryd.underlying3 rfl (X.w_i64 (by omega))) ?_
    refine X.opE X.wN rfl (X.appMkB (S := fun k => w.heap.size ≤ k) Tryd.underlying22 Tryd.underlying3 E8b rfl rfl (by omega) (Mine.mono (T := fun k => w.heap.size ≤ k) hM5 (fun k h1 h2 => by (try simp only [] at *); omega)) (by (try simp only [hsl, List.length_replicate, List.length_append, List.length_cons, List.length_nil, List.length_take, List.length_drop, List.length_map, List.length_range]); omega) (by intros; (try simp only [] at *); omega)) ?_
    rintro v6 w6 ⟨hM6, hx6⟩
    have hx6' := hx6.size
    have q8 := hM6.slF KB_flat 0 (fun _ _ => Nat.zero_le _)
    obtain ⟨A8, c8, rfl, hc8, hs8⟩ := q8
    refine X.opE X.wN rfl (X.callE ((Unframe_c _ hs8 (by omega) (by (try simp only [hsl, List.length_replicate, List.length_append, List.length_cons, List.length_nil, List.length_take, List.length_drop, List.length_map, List.length_range]); omega) (hT.keep (((((hk1.trans hk2).trans hk3).trans hk4).trans hk5).step hx6 (by intros; (try simp only [] at *); omega)))).mono fresh3) Tryd.call19 rfl rfl) ?_
    rintro _ w7 ⟨A7, c7, rfl, hc7, hs7, hM7, hk7⟩
    have hk7' := hk7.size
    refine X.opw X.wN rfl (X.move rfl) ?_
    refine X.opw X.wN rfl (X.extr rfl rfl) ?_
    refine X.opw X.wN rfl (X.extr rfl rfl) ?_
    refine X.opw X.wN rfl (X.extr rfl rfl) ?_
    refine X.opE X.wN rfl (X.allocE Tryd.zeroValue33 rfl) ?_
    rintro _ w9 ⟨rfl, hB9, hk9, hz9⟩
    refine X.opE X.wN rfl (X.storeNE Tryd.sizeOf33 hB9 rfl rfl rfl rfl (fun u hu => by simp at hu; rcases hu with rfl | rfl <;> rfl)) ?_
    rintro _ w10 ⟨hB10, hx10, hz10⟩
    refine X.opw X.wN rfl (X.assign (v := .int .i64 _) rfl) ?_
    refine X.opw X.wN rfl (X.assign (v := .int .i64 _) rfl) ?_
    refine X.opsEnd ?_
    refine X.seq ?_
    refine X.region ?_
    refine X.opw X.wN rfl (X.move (v := .int .i64 _) rfl) ?_
    refine X.opP X.wN rfl rfl (X.eqI rfl rfl) (fun h48 => ?_) (fun h48 => ?_)
    · refine X.opw X.wN rfl (X.move (v := .bool true) rfl) ?_
      refine X.opw (X.wG rfl rfl rfl) rfl (X.move (v := .int .i64 _) rfl) ?_
      refine X.opw (X.wG rfl rfl rfl) rfl (X.eqI rfl rfl) ?_
      refine X.opw X.wN rfl (X.pickT (v := .bool _) rfl rfl) ?_
      refine X.opw X.wN rfl (X.assign (v := .bool _) rfl) ?_
      refine X.opsEnd ?_
      refine X.ret1 (v := (.bool _)) Tryd.func4 Tryd.results4 rfl ?_
      exact ⟨congrArg Value.bool (decide_eq_true (congrArg (fun u : Int × UInt8 × List UInt8 × Int => u.1) (unf_long kind n))), ((((((((hk1.trans hk2).trans hk3).trans hk4).trans hk5).step hx6 (by intros; (try simp only [] at *); omega)).trans hk7).trans hk9).step hx10 (by intros; (try simp only [] at *); omega))⟩
    · exact absurd (f_long kind) h48
end Go.Proofs.YtleaidgngkfjbaaDoor
