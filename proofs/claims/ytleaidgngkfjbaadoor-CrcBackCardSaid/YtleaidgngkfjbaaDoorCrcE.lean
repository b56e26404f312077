/- Frames: contracts. -/
import Derived.Test.YtleaidgngkfjbaaDoorCrcD
namespace Go.Proofs.YtleaidgngkfjbaaDoor
open Go Go.Proofs.YtleaidgngkfjbaaDoor.X
set_option linter.unusedVariables false
set_option linter.unusedSimpArgs false

def frameC (k : UInt8) (l : List UInt8) : Int × List UInt8 := if 1048576 < l.length then (2, []) else (0, sealC (k :: lowC (BitVec.ofNat 32 l.length)) ++ sealC l)
abbrev headN (l : List UInt8) : Nat := (numC ((openC (l.take 9)).2.drop 1)).toNat
/-- The first frame of bytes: a code, the kind, the bytes, how many bytes it has. -/
def unframeC (l : List UInt8) : Int × UInt8 × List UInt8 × Int :=
  if l.length < 9 then (41, 0, [], 0)
  else if (openC (l.take 9)).1 ≠ 0 ∨ 1048576 < headN l then (42, 0, [], 0)
  else if l.length < headN l + 13 then (41, 0, [], 0)
  else if (openC ((l.take (headN l + 13)).drop 9)).1 ≠ 0 then ((openC ((l.take (headN l + 13)).drop 9)).1, 0, [], 0)
  else (0, (openC (l.take 9)).2.headD 0, (openC ((l.take (headN l + 13)).drop 9)).2, headN l + 13)
theorem open_len {l : List UInt8} (h : ¬ (openC l).1 ≠ 0) : (openC l).2 = l.take (l.length - 4) ∧ 4 ≤ l.length := by
  unfold openC at h ⊢
  split
  · rename_i h1; rw [if_pos h1] at h; simp at h
  · rename_i h1
    rw [if_neg h1] at h
    split
    · exact ⟨rfl, by omega⟩
    · rename_i h2; rw [if_neg h2] at h; simp at h
theorem open_z {l : List UInt8} (h : (openC l).1 ≠ 0) : (openC l).2 = [] := by
  unfold openC at h ⊢
  split
  · rfl
  · rename_i h1
    rw [if_neg h1] at h
    split
    · rename_i h2; rw [if_pos h2] at h; simp at h
    · rfl
theorem seal_len (l : List UInt8) : (sealC l).length = l.length + 4 := by simp [sealC, lowC]
theorem flat2 (a b : List UInt8) : [a, b].flatten = a ++ b := by simp
theorem cvLen {n : Nat} (h : n ≤ 1048576) : IntKind.u32.wrap (n : Int) = ((BitVec.ofNat 32 n).toNat : Int) := by
  rw [BitVec.toNat_ofNat, u32_wrap]; omega
-- f18 "pedigree/crc.Frame" params [33] results [22, 24] -> [(ResultVar.tmp 2), (ResultVar.tmp 3)] nfree 0 ntm
set_option maxHeartbeats 4000000 in
set_option maxRecDepth 100000 in
theorem Frame_c (k : UInt8) {lo hi : Nat} {A : Option Addr} {n c : Nat} {l : List UInt8} (w : World) (hs : Sl KB lo hi w A n l) (hhi : hi ≤ w.heap.size) (hnc : n ≤ c) (hn : n ≤ 2000000) (hT : TabOk w) : Ret Tryd.prog 18 #[.agg #[.int .u8 (k.toNat : Int), .slice A n c]] w fun r w' => ∃ v, r = .tuple #[v, .int .i64 (frameC k l).1] ∧ Fresh KB 5 w w' v (frameC k l).2 := by
  have hl := hs.len
  have hlo : ∀ r, (lowC r).length = 4 := fun _ => rfl
  have hsl := seal_len
  refine X.enter Tryd.func18 rfl Tryd.ntmps18 rfl ?_
  refine X.seq ?_
  refine X.region ?_
  refine X.opE X.wN rfl (X.boxE rfl rfl) ?_
  rintro _ w1 ⟨rfl, hB1, hk1, hz1⟩
  refine X.opw X.wN rfl (X.assign rfl) ?_
  refine X.opw X.wN rfl (X.assign rfl) ?_
  refine X.opsEnd ?_
  refine X.seq ?_
  refine X.seq ?_
  refine X.region ?_
  refine X.opw X.wN rfl (X.fldB (j := 1) Tryd.underlying33 rfl rfl Tryd.sizeOf22 rfl) ?_
  refine X.opw X.wN rfl (X.load1B Tryd.isAgg22 hB1 rfl rfl) ?_
  refine X.opw X.wN rfl (X.lenSl Tryd.underlying22 rfl) ?_
  refine X.opP X.wN rfl rfl (X.gtr rfl rfl) (fun h8 => ?_) (fun h8 => ?_)
  · refine X.opsEnd ?_
    refine X.condT rfl ?_
    refine X.seq ?_
    refine X.region ?_
    refine X.opw X.wN rfl (X.assign rfl) ?_
    refine X.opw X.wN rfl (X.assign rfl) ?_
    refine X.opsEnd ?_
    refine X.ret2 (v2 := (.int .i64 _)) Tryd.func18 Tryd.results18 rfl rfl ?_
    rw [frameC, if_pos (by omega)]
    exact ⟨_, rfl, ((Mine.nil _ _ _ _ _ _).step (T := fun k => w.heap.size ≤ k) (fun k h => by (try simp only [] at *); omega)), hk1⟩
  · refine X.opsEnd ?_
    refine X.condF rfl ?_
    refine X.skip ?_
    refine X.seq ?_
    refine X.regionD (fun k => w1.heap.size ≤ k) 9 (by kernel_rfl) (by kernel_rfl) (fun w2 hk2 hz2 => ?_)
    refine X.dTake 0 rfl (by kernel_rfl) (by kernel_rfl) (by kernel_rfl) (X.dwN rfl) (fun w' hk' => X.fldB (j := 0) Tryd.underlying33 rfl rfl Tryd.sizeOf5 rfl) ?_
    refine X.dTake 1 rfl (by kernel_rfl) (by kernel_rfl) (by kernel_rfl) (X.dwN rfl) (fun w' hk' => X.load1B Tryd.isAgg5 ((hB1.keep hk2).ext hk' (by intros; (try simp only []); omega)) rfl rfl) ?_
    refine X.dTake 3 rfl (by kernel_rfl) (by kernel_rfl) (by kernel_rfl) (X.dwN rfl) (fun w' hk' => X.fldB (j := 1) Tryd.underlying33 rfl rfl Tryd.sizeOf22 rfl) ?_
    refine X.dTake 4 rfl (by kernel_rfl) (by kernel_rfl) (by kernel_rfl) (X.dwN rfl) (fun w' hk' => X.load1B Tryd.isAgg22 ((hB1.keep hk2).ext hk' (by intros; (try simp only []); omega)) rfl rfl) ?_
    refine X.dTake 5 rfl (by kernel_rfl) (by kernel_rfl) (by kernel_rfl) (X.dwN rfl) (fun w' hk' => X.lenSl Tryd.underlying22 rfl) ?_
    refine X.dTake 6 rfl (by kernel_rfl) (by kernel_rfl) (by kernel_rfl) (X.dwN rfl) (fun w' hk' => X.cvI Tryd.underlying3 Tryd.underlying27 rfl (cvLen (by omega))) ?_
    refine X.dTwo (i := 2) (j := 7) (by kernel_rfl) ?_ ?_
    · refine X.d1E (i := 2) rfl (X.dwN rfl) (X.lit1B Tryd.underlying22 Tryd.sizeOf5 Tryd.zeroValue5 rfl) (by rintro _ w3 ⟨rfl, hs3, hB3, hk3, hz3⟩ _; exact hk3.mono (fun _ _ h => h.elim)) ?_
      rintro _ w3 ⟨rfl, hs3, hB3, hk3, hz3⟩
      refine X.dE (i := 7) (by kernel_rfl) rfl (X.dwN rfl) (X.callE ((low_c (BitVec.ofNat 32 n) _).mono freshB) Tryd.call38 rfl rfl) (by rintro _ w4 ⟨A4, c4, rfl, hc4, hs4, hM4, hk4⟩ _; exact hk4.mono (fun _ _ h => h.elim)) ?_
      rintro _ w4 ⟨A4, c4, rfl, hc4, hs4, hM4, hk4⟩
      have hk4' := hk4.size
      refine X.dE (i := 8) (by kernel_rfl) rfl (X.dwN rfl) (X.appE (K := KB) (S := fun k => w1.heap.size ≤ k) KB_flat Tryd.underlying22 E8 rfl rfl ((Mine.litB hB3 (by intros; (try simp only [] at *); omega)).keep hk4) hs4 (by (try simp only [hlo, List.length_append, List.length_cons, List.length_nil, List.length_take, List.length_drop, List.length_map, List.length_range]); omega) (by intros; (try simp only [] at *); omega)) (by rintro v5 w5 ⟨hM5, hx5⟩ _; exact hx5) ?_
      rintro v5 w5 ⟨hM5, hx5⟩
      have hx5' := hx5.size
      refine X.dStep (i := 9) (by kernel_rfl) rfl (X.dwN rfl) (X.assign rfl) (fun h => absurd h (by decide)) ?_
      refine X.dEnd (by kernel_rfl) ?_
      refine X.seq ?_
      refine X.regionD (fun k => w5.heap.size ≤ k) 7 (by kernel_rfl) (by kernel_rfl) (fun w6 hk6 hz6 => ?_)
      refine X.dTake 0 rfl (by kernel_rfl) (by kernel_rfl) (by kernel_rfl) (X.dwN rfl) (fun w' hk' => X.move rfl) ?_
      refine X.dTake 2 rfl (by kernel_rfl) (by kernel_rfl) (by kernel_rfl) (X.dwN rfl) (fun w' hk' => X.fldB (j := 1) Tryd.underlying33 rfl rfl Tryd.sizeOf22 rfl) ?_
      refine X.dTake 3 rfl (by kernel_rfl) (by kernel_rfl) (by kernel_rfl) (X.dwN rfl) (fun w' hk' => X.load1B Tryd.isAgg22 ((((hB1.keep ((hk2.trans hk3).trans hk4)).ext hx5 (by intros; (try simp only []); omega)).keep hk6).ext hk' (by intros; (try simp only []); omega)) rfl rfl) ?_
      have q8 := (hM5.keep hk6).slF KB_flat 0 (fun _ _ => Nat.zero_le _)
      obtain ⟨A8, c8, rfl, hc8, hs8⟩ := q8
      refine X.dE (i := 1) (by kernel_rfl) rfl (X.dwN rfl) (X.callE ((Seal_c _ hs8 (by omega) (by omega) (by (try simp only [hlo, List.length_append, List.length_cons, List.length_nil, List.length_take, List.length_drop, List.length_map, List.length_range]); omega) (hT.keep (((((hk1.trans hk2).trans hk3).trans hk4).step hx5 (by intros; (try simp only [] at *); omega)).trans hk6))).mono freshB) Tryd.call15 rfl rfl) (by rintro _ w7 ⟨A7, c7, rfl, hc7, hs7, hM7, hk7⟩ _; exact hk7.mono (fun _ _ h => h.elim)) ?_
      rintro _ w7 ⟨A7, c7, rfl, hc7, hs7, hM7, hk7⟩
      have hk7' := hk7.size
      refine X.dE (i := 4) (by kernel_rfl) rfl (X.dwN rfl) (X.callE ((Seal_c _ (hs.keep ((((((hk1.trans hk2).trans hk3).trans hk4).step hx5 (by intros; (try simp only [] at *); omega)).trans hk6).trans hk7)) (by omega) (by omega) (by (try simp only [hlo, List.length_append, List.length_cons, List.length_nil, List.length_take, List.length_drop, List.length_map, List.length_range]); omega) (hT.keep ((((((hk1.trans hk2).trans hk3).trans hk4).step hx5 (by intros; (try simp only [] at *); omega)).trans hk6).trans hk7))).mono freshB) Tryd.call15 rfl rfl) (by rintro _ w9 ⟨A9, c9, rfl, hc9, hs9, hM9, hk9⟩ _; exact hk9.mono (fun _ _ h => h.elim)) ?_
      rintro _ w9 ⟨A9, c9, rfl, hc9, hs9, hM9, hk9⟩
      have hk9' := hk9.size
      refine X.dE (i := 5) (by kernel_rfl) rfl (X.dwN rfl) (X.litKE (K := KR1) (xs := [Operand.tmp 19, Operand.tmp 22]) (vs := [.slice A7 (sealC (k :: lowC (BitVec.ofNat 32 n))).length c7, .slice A9 (sealC l).length c9]) (ys := [.slice A7 (sealC (k :: lowC (BitVec.ofNat 32 n))).length c7, .slice A9 (sealC l).length c9]) Tryd.underlying38 Tryd.sizeOf22 Tryd.zeroValue22 rfl rfl rfl rfl rfl ⟨⟨_, rfl, rfl, rfl⟩, ⟨_, rfl, rfl, rfl⟩, trivial⟩) (by rintro _ w10 ⟨rfl, hs10, hB10, hk10, hz10⟩ _; exact hk10.mono (fun _ _ h => h.elim)) ?_
      rintro _ w10 ⟨rfl, hs10, hB10, hk10, hz10⟩
      refine X.dE (i := 6) (by kernel_rfl) rfl (X.dwN rfl) (X.callE (Concat_c (lo2 := 0) (hi2 := w10.heap.size) (ls := [sealC (k :: lowC (BitVec.ofNat 32 n)), sealC l]) _ hs10 ⟨⟨_, _, _, rfl, hc7, ((hs7.keep (hk9.trans hk10)).wide (Nat.zero_le _) (by omega))⟩, ⟨_, _, _, rfl, hc9, ((hs9.keep hk10).wide (Nat.zero_le _) (by omega))⟩, trivial⟩ (by simp only [List.flatten_cons, List.flatten_nil, List.length_append, List.length_nil, List.length_cons, hsl, hlo, hl]; omega)) Tryd.call37 rfl rfl) (by rintro v11 w11 ⟨hM11, hk11⟩ _; exact hk11.mono (fun _ _ h => h.elim)) ?_
      rintro v11 w11 ⟨hM11, hk11⟩
      have hk11' := hk11.size
      refine X.dStep (i := 7) (by kernel_rfl) rfl (X.dwN rfl) (X.assign rfl) (fun h => absurd h (by decide)) ?_
      refine X.dStep (i := 8) (by kernel_rfl) rfl (X.dwN rfl) (X.assign rfl) (fun h => absurd h (by decide)) ?_
      refine X.dEnd (by kernel_rfl) ?_
      refine X.ret2 (v2 := (.int .i64 _)) Tryd.func18 Tryd.results18 rfl rfl ?_
      rw [frameC, if_neg (by omega), hl]
      have q := (hM11.step (T := fun k => w.heap.size ≤ k) (fun k h => by (try simp only [] at *); omega))
      rw [flat2] at q
      exact ⟨_, rfl, q, (((((((((hk1.trans hk2).trans hk3).trans hk4).step hx5 (by intros; (try simp only [] at *); omega)).trans hk6).trans hk7).trans hk9).trans hk10).trans hk11)⟩
    · refine X.d1E (i := 7) rfl (X.dwN rfl) (X.callE ((low_c (BitVec.ofNat 32 n) _).mono freshB) Tryd.call38 rfl rfl) (by rintro _ w12 ⟨A12, c12, rfl, hc12, hs12, hM12, hk12⟩ _; exact hk12.mono (fun _ _ h => h.elim)) ?_
      rintro _ w12 ⟨A12, c12, rfl, hc12, hs12, hM12, hk12⟩
      have hk12' := hk12.size
      refine X.dE (i := 2) (by kernel_rfl) rfl (X.dwN rfl) (X.lit1B Tryd.underlying22 Tryd.sizeOf5 Tryd.zeroValue5 rfl) (by rintro _ w13 ⟨rfl, hs13, hB13, hk13, hz13⟩ _; exact hk13.mono (fun _ _ h => h.elim)) ?_
      rintro _ w13 ⟨rfl, hs13, hB13, hk13, hz13⟩
      refine X.dE (i := 8) (by kernel_rfl) rfl (X.dwN rfl) (X.appE (K := KB) (S := fun k => w1.heap.size ≤ k) KB_flat Tryd.underlying22 E8 rfl rfl (Mine.litB hB13 (by intros; (try simp only [] at *); omega)) (hs12.keep hk13) (by (try simp only [hlo, List.length_append, List.length_cons, List.length_nil, List.length_take, List.length_drop, List.length_map, List.length_range]); omega) (by intros; (try simp only [] at *); omega)) (by rintro v14 w14 ⟨hM14, hx14⟩ _; exact hx14) ?_
      rintro v14 w14 ⟨hM14, hx14⟩
      have hx14' := hx14.size
      refine X.dStep (i := 9) (by kernel_rfl) rfl (X.dwN rfl) (X.assign rfl) (fun h => absurd h (by decide)) ?_
      refine X.dEnd (by kernel_rfl) ?_
      refine X.seq ?_
      refine X.regionD (fun k => w14.heap.size ≤ k) 7 (by kernel_rfl) (by kernel_rfl) (fun w15 hk15 hz15 => ?_)
      refine X.dTake 0 rfl (by kernel_rfl) (by kernel_rfl) (by kernel_rfl) (X.dwN rfl) (fun w' hk' => X.move rfl) ?_
      refine X.dTake 2 rfl (by kernel_rfl) (by kernel_rfl) (by kernel_rfl) (X.dwN rfl) (fun w' hk' => X.fldB (j := 1) Tryd.underlying33 rfl rfl Tryd.sizeOf22 rfl) ?_
      refine X.dTake 3 rfl (by kernel_rfl) (by kernel_rfl) (by kernel_rfl) (X.dwN rfl) (fun w' hk' => X.load1B Tryd.isAgg22 ((((hB1.keep ((hk2.trans hk12).trans hk13)).ext hx14 (by intros; (try simp only []); omega)).keep hk15).ext hk' (by intros; (try simp only []); omega)) rfl rfl) ?_
      have q17 := (hM14.keep hk15).slF KB_flat 0 (fun _ _ => Nat.zero_le _)
      obtain ⟨A17, c17, rfl, hc17, hs17⟩ := q17
      refine X.dE (i := 1) (by kernel_rfl) rfl (X.dwN rfl) (X.callE ((Seal_c _ hs17 (by omega) (by omega) (by (try simp only [hlo, List.length_append, List.length_cons, List.length_nil, List.length_take, List.length_drop, List.length_map, List.length_range]); omega) (hT.keep (((((hk1.trans hk2).trans hk12).trans hk13).step hx14 (by intros; (try simp only [] at *); omega)).trans hk15))).mono freshB) Tryd.call15 rfl rfl) (by rintro _ w16 ⟨A16, c16, rfl, hc16, hs16, hM16, hk16⟩ _; exact hk16.mono (fun _ _ h => h.elim)) ?_
      rintro _ w16 ⟨A16, c16, rfl, hc16, hs16, hM16, hk16⟩
      have hk16' := hk16.size
      refine X.dE (i := 4) (by kernel_rfl) rfl (X.dwN rfl) (X.callE ((Seal_c _ (hs.keep ((((((hk1.trans hk2).trans hk12).trans hk13).step hx14 (by intros; (try simp only [] at *); omega)).trans hk15).trans hk16)) (by omega) (by omega) (by (try simp only [hlo, List.length_append, List.length_cons, List.length_nil, List.length_take, List.length_drop, List.length_map, List.length_range]); omega) (hT.keep ((((((hk1.trans hk2).trans hk12).trans hk13).step hx14 (by intros; (try simp only [] at *); omega)).trans hk15).trans hk16))).mono freshB) Tryd.call15 rfl rfl) (by rintro _ w18 ⟨A18, c18, rfl, hc18, hs18, hM18, hk18⟩ _; exact hk18.mono (fun _ _ h => h.elim)) ?_
      rintro _ w18 ⟨A18, c18, rfl, hc18, hs18, hM18, hk18⟩
      have hk18' := hk18.size
      refine X.dE (i := 5) (by kernel_rfl) rfl (X.dwN rfl) (X.litKE (K := KR1) (xs := [Operand.tmp 19, Operand.tmp 22]) (vs := [.slice A16 (sealC (k :: lowC (BitVec.ofNat 32 n))).length c16, .slice A18 (sealC l).length c18]) (ys := [.slice A16 (sealC (k :: lowC (BitVec.ofNat 32 n))).length c16, .slice A18 (sealC l).length c18]) Tryd.underlying38 Tryd.sizeOf22 Tryd.zeroValue22 rfl rfl rfl rfl rfl ⟨⟨_, rfl, rfl, rfl⟩, ⟨_, rfl, rfl, rfl⟩, trivial⟩) (by rintro _ w19 ⟨rfl, hs19, hB19, hk19, hz19⟩ _; exact hk19.mono (fun _ _ h => h.elim)) ?_
      rintro _ w19 ⟨rfl, hs19, hB19, hk19, hz19⟩
      refine X.dE (i := 6) (by kernel_rfl) rfl (X.dwN rfl) (X.callE (Concat_c (lo2 := 0) (hi2 := w19.heap.size) (ls := [sealC (k :: lowC (BitVec.ofNat 32 n)), sealC l]) _ hs19 ⟨⟨_, _, _, rfl, hc16, ((hs16.keep (hk18.trans hk19)).wide (Nat.zero_le _) (by omega))⟩, ⟨_, _, _, rfl, hc18, ((hs18.keep hk19).wide (Nat.zero_le _) (by omega))⟩, trivial⟩ (by simp only [List.flatten_cons, List.flatten_nil, List.length_append, List.length_nil, List.length_cons, hsl, hlo, hl]; omega)) Tryd.call37 rfl rfl) (by rintro v20 w20 ⟨hM20, hk20⟩ _; exact hk20.mono (fun _ _ h => h.elim)) ?_
      rintro v20 w20 ⟨hM20, hk20⟩
      have hk20' := hk20.size
      refine X.dStep (i := 7) (by kernel_rfl) rfl (X.dwN rfl) (X.assign rfl) (fun h => absurd h (by decide)) ?_
      refine X.dStep (i := 8) (by kernel_rfl) rfl (X.dwN rfl) (X.assign rfl) (fun h => absurd h (by decide)) ?_
      refine X.dEnd (by kernel_rfl) ?_
      refine X.ret2 (v2 := (.int .i64 _)) Tryd.func18 Tryd.results18 rfl rfl ?_
      rw [frameC, if_neg (by omega), hl]
      have q := (hM20.step (T := fun k => w.heap.size ≤ k) (fun k h => by (try simp only [] at *); omega))
      rw [flat2] at q
      exact ⟨_, rfl, q, (((((((((hk1.trans hk2).trans hk12).trans hk13).step hx14 (by intros; (try simp only [] at *); omega)).trans hk15).trans hk16).trans hk18).trans hk19).trans hk20)⟩
-- f26 "pedigree/pedigreeref04.Frame" params [33] results [22, 24] -> [(ResultVar.tmp 2), (ResultVar.tmp 3)] n
set_option maxHeartbeats 4000000 in
set_option maxRecDepth 100000 in
theorem RFrame_c (k : UInt8) {lo hi : Nat} {A : Option Addr} {n c : Nat} {l : List UInt8} (w : World) (hs : Sl KB lo hi w A n l) (hhi : hi ≤ w.heap.size) (hnc : n ≤ c) (hn : n ≤ 2000000) : Ret Tryd.prog 26 #[.agg #[.int .u8 (k.toNat : Int), .slice A n c]] w fun r w' => ∃ v, r = .tuple #[v, .int .i64 (frameC k l).1] ∧ Fresh KB 5 w w' v (frameC k l).2 := by
  have hl := hs.len
  have hlo : ∀ r, (lowC r).length = 4 := fun _ => rfl
  have hsl := seal_len
  refine X.enter Tryd.func26 rfl Tryd.ntmps26 rfl ?_
  refine X.seq ?_
  refine X.region ?_
  refine X.opE X.wN rfl (X.boxE rfl rfl) ?_
  rintro _ w1 ⟨rfl, hB1, hk1, hz1⟩
  refine X.opw X.wN rfl (X.assign rfl) ?_
  refine X.opw X.wN rfl (X.assign rfl) ?_
  refine X.opsEnd ?_
  refine X.seq ?_
  refine X.seq ?_
  refine X.region ?_
  refine X.opw X.wN rfl (X.fldB (j := 1) Tryd.underlying33 rfl rfl Tryd.sizeOf22 rfl) ?_
  refine X.opw X.wN rfl (X.load1B Tryd.isAgg22 hB1 rfl rfl) ?_
  refine X.opw X.wN rfl (X.lenSl Tryd.underlying22 rfl) ?_
  refine X.opP X.wN rfl rfl (X.gtr rfl rfl) (fun h8 => ?_) (fun h8 => ?_)
  · refine X.opsEnd ?_
    refine X.condT rfl ?_
    refine X.seq ?_
    refine X.region ?_
    refine X.opw X.wN rfl (X.assign rfl) ?_
    refine X.opw X.wN rfl (X.assign rfl) ?_
    refine X.opsEnd ?_
    refine X.ret2 (v2 := (.int .i64 _)) Tryd.func26 Tryd.results26 rfl rfl ?_
    rw [frameC, if_pos (by omega)]
    exact ⟨_, rfl, ((Mine.nil _ _ _ _ _ _).step (T := fun k => w.heap.size ≤ k) (fun k h => by (try simp only [] at *); omega)), hk1⟩
  · refine X.opsEnd ?_
    refine X.condF rfl ?_
    refine X.skip ?_
    refine X.seq ?_
    refine X.regionD (fun k => w1.heap.size ≤ k) 9 (by kernel_rfl) (by kernel_rfl) (fun w2 hk2 hz2 => ?_)
    refine X.dTake 0 rfl (by kernel_rfl) (by kernel_rfl) (by kernel_rfl) (X.dwN rfl) (fun w' hk' => X.fldB (j := 0) Tryd.underlying33 rfl rfl Tryd.sizeOf5 rfl) ?_
    refine X.dTake 1 rfl (by kernel_rfl) (by kernel_rfl) (by kernel_rfl) (X.dwN rfl) (fun w' hk' => X.load1B Tryd.isAgg5 ((hB1.keep hk2).ext hk' (by intros; (try simp only []); omega)) rfl rfl) ?_
    refine X.dTake 3 rfl (by kernel_rfl) (by kernel_rfl) (by kernel_rfl) (X.dwN rfl) (fun w' hk' => X.fldB (j := 1) Tryd.underlying33 rfl rfl Tryd.sizeOf22 rfl) ?_
    refine X.dTake 4 rfl (by kernel_rfl) (by kernel_rfl) (by kernel_rfl) (X.dwN rfl) (fun w' hk' => X.load1B Tryd.isAgg22 ((hB1.keep hk2).ext hk' (by intros; (try simp only []); omega)) rfl rfl) ?_
    refine X.dTake 5 rfl (by kernel_rfl) (by kernel_rfl) (by kernel_rfl) (X.dwN rfl) (fun w' hk' => X.lenSl Tryd.underlying22 rfl) ?_
    refine X.dTake 6 rfl (by kernel_rfl) (by kernel_rfl) (by kernel_rfl) (X.dwN rfl) (fun w' hk' => X.cvI Tryd.underlying3 Tryd.underlying27 rfl (cvLen (by omega))) ?_
    refine X.dTwo (i := 2) (j := 7) (by kernel_rfl) ?_ ?_
    · refine X.d1E (i := 2) rfl (X.dwN rfl) (X.lit1B Tryd.underlying22 Tryd.sizeOf5 Tryd.zeroValue5 rfl) (by rintro _ w3 ⟨rfl, hs3, hB3, hk3, hz3⟩ _; exact hk3.mono (fun _ _ h => h.elim)) ?_
      rintro _ w3 ⟨rfl, hs3, hB3, hk3, hz3⟩
      refine X.dE (i := 7) (by kernel_rfl) rfl (X.dwN rfl) (X.callE ((four_c (BitVec.ofNat 32 n) _).mono freshB) Tryd.call39 rfl rfl) (by rintro _ w4 ⟨A4, c4, rfl, hc4, hs4, hM4, hk4⟩ _; exact hk4.mono (fun _ _ h => h.elim)) ?_
      rintro _ w4 ⟨A4, c4, rfl, hc4, hs4, hM4, hk4⟩
      have hk4' := hk4.size
      refine X.dE (i := 8) (by kernel_rfl) rfl (X.dwN rfl) (X.appE (K := KB) (S := fun k => w1.heap.size ≤ k) KB_flat Tryd.underlying22 E8 rfl rfl ((Mine.litB hB3 (by intros; (try simp only [] at *); omega)).keep hk4) hs4 (by (try simp only [hlo, hsl, List.length_append, List.length_cons, List.length_nil, List.length_take, List.length_drop, List.length_map, List.length_range]); omega) (by intros; (try simp only [] at *); omega)) (by rintro v5 w5 ⟨hM5, hx5⟩ _; exact hx5) ?_
      rintro v5 w5 ⟨hM5, hx5⟩
      have hx5' := hx5.size
      refine X.dStep (i := 9) (by kernel_rfl) rfl (X.dwN rfl) (X.assign rfl) (fun h => absurd h (by decide)) ?_
      refine X.dEnd (by kernel_rfl) ?_
      refine X.seq ?_
      refine X.regionD (fun k => w5.heap.size ≤ k) 6 (by kernel_rfl) (by kernel_rfl) (fun w6 hk6 hz6 => ?_)
      refine X.dTake 0 rfl (by kernel_rfl) (by kernel_rfl) (by kernel_rfl) (X.dwN rfl) (fun w' hk' => X.move rfl) ?_
      refine X.dTake 2 rfl (by kernel_rfl) (by kernel_rfl) (by kernel_rfl) (X.dwN rfl) (fun w' hk' => X.fldB (j := 1) Tryd.underlying33 rfl rfl Tryd.sizeOf22 rfl) ?_
      refine X.dTake 3 rfl (by kernel_rfl) (by kernel_rfl) (by kernel_rfl) (X.dwN rfl) (fun w' hk' => X.load1B Tryd.isAgg22 ((((hB1.keep ((hk2.trans hk3).trans hk4)).ext hx5 (by intros; (try simp only []); omega)).keep hk6).ext hk' (by intros; (try simp only []); omega)) rfl rfl) ?_
      have q8 := (hM5.keep hk6).slF KB_flat 0 (fun _ _ => Nat.zero_le _)
      obtain ⟨A8, c8, rfl, hc8, hs8⟩ := q8
      refine X.dE (i := 1) (by kernel_rfl) rfl (X.dwN rfl) (X.callE ((RSeal_c _ hs8 (by (try simp only [hlo, hsl, List.length_append, List.length_cons, List.length_nil, List.length_take, List.length_drop, List.length_map, List.length_range]); omega)).mono freshB) Tryd.call16 rfl rfl) (by rintro _ w7 ⟨A7, c7, rfl, hc7, hs7, hM7, hk7⟩ _; exact hk7.mono (fun _ _ h => h.elim)) ?_
      rintro _ w7 ⟨A7, c7, rfl, hc7, hs7, hM7, hk7⟩
      have hk7' := hk7.size
      refine X.dE (i := 4) (by kernel_rfl) rfl (X.dwN rfl) (X.callE ((RSeal_c _ (hs.keep ((((((hk1.trans hk2).trans hk3).trans hk4).step hx5 (by intros; (try simp only [] at *); omega)).trans hk6).trans hk7)) (by (try simp only [hlo, hsl, List.length_append, List.length_cons, List.length_nil, List.length_take, List.length_drop, List.length_map, List.length_range]); omega)).mono freshB) Tryd.call16 rfl rfl) (by rintro _ w9 ⟨A9, c9, rfl, hc9, hs9, hM9, hk9⟩ _; exact hk9.mono (fun _ _ h => h.elim)) ?_
      rintro _ w9 ⟨A9, c9, rfl, hc9, hs9, hM9, hk9⟩
      have hk9' := hk9.size
      refine X.dE (i := 5) (by kernel_rfl) rfl (X.dwN rfl) (X.appE (K := KB) (S := fun k => w5.heap.size ≤ k) KB_flat Tryd.underlying22 E8 rfl rfl (Mine.mono (T := fun k => w5.heap.size ≤ k) (hM7.keep hk9) (fun k h1 h2 => by (try simp only [] at *); omega)) hs9 (by (try simp only [hlo, hsl, List.length_append, List.length_cons, List.length_nil, List.length_take, List.length_drop, List.length_map, List.length_range]); omega) (by intros; (try simp only [] at *); omega)) (by rintro v10 w10 ⟨hM10, hx10⟩ _; exact hx10) ?_
      rintro v10 w10 ⟨hM10, hx10⟩
      have hx10' := hx10.size
      refine X.dStep (i := 6) (by kernel_rfl) rfl (X.dwN rfl) (X.assign rfl) (fun h => absurd h (by decide)) ?_
      refine X.dStep (i := 7) (by kernel_rfl) rfl (X.dwN rfl) (X.assign rfl) (fun h => absurd h (by decide)) ?_
      refine X.dEnd (by kernel_rfl) ?_
      refine X.ret2 (v2 := (.int .i64 _)) Tryd.func26 Tryd.results26 rfl rfl ?_
      rw [frameC, if_neg (by omega), hl]
      exact ⟨_, rfl, (hM10.step (T := fun k => w.heap.size ≤ k) (fun k h => by (try simp only [] at *); omega)), ((((((((hk1.trans hk2).trans hk3).trans hk4).step hx5 (by intros; (try simp only [] at *); omega)).trans hk6).trans hk7).trans hk9).step hx10 (by intros; (try simp only [] at *); omega))⟩
    · refine X.d1E (i := 7) rfl (X.dwN rfl) (X.callE ((four_c (BitVec.ofNat 32 n) _).mono freshB) Tryd.call39 rfl rfl) (by rintro _ w11 ⟨A11, c11, rfl, hc11, hs11, hM11, hk11⟩ _; exact hk11.mono (fun _ _ h => h.elim)) ?_
      rintro _ w11 ⟨A11, c11, rfl, hc11, hs11, hM11, hk11⟩
      have hk11' := hk11.size
      refine X.dE (i := 2) (by kernel_rfl) rfl (X.dwN rfl) (X.lit1B Tryd.underlying22 Tryd.sizeOf5 Tryd.zeroValue5 rfl) (by rintro _ w12 ⟨rfl, hs12, hB12, hk12, hz12⟩ _; exact hk12.mono (fun _ _ h => h.elim)) ?_
      rintro _ w12 ⟨rfl, hs12, hB12, hk12, hz12⟩
      refine X.dE (i := 8) (by kernel_rfl) rfl (X.dwN rfl) (X.appE (K := KB) (S := fun k => w1.heap.size ≤ k) KB_flat Tryd.underlying22 E8 rfl rfl (Mine.litB hB12 (by intros; (try simp only [] at *); omega)) (hs11.keep hk12) (by (try simp only [hlo, hsl, List.length_append, List.length_cons, List.length_nil, List.length_take, List.length_drop, List.length_map, List.length_range]); omega) (by intros; (try simp only [] at *); omega)) (by rintro v13 w13 ⟨hM13, hx13⟩ _; exact hx13) ?_
      rintro v13 w13 ⟨hM13, hx13⟩
      have hx13' := hx13.size
      refine X.dStep (i := 9) (by kernel_rfl) rfl (X.dwN rfl) (X.assign rfl) (fun h => absurd h (by decide)) ?_
      refine X.dEnd (by kernel_rfl) ?_
      refine X.seq ?_
      refine X.regionD (fun k => w13.heap.size ≤ k) 6 (by kernel_rfl) (by kernel_rfl) (fun w14 hk14 hz14 => ?_)
      refine X.dTake 0 rfl (by kernel_rfl) (by kernel_rfl) (by kernel_rfl) (X.dwN rfl) (fun w' hk' => X.move rfl) ?_
      refine X.dTake 2 rfl (by kernel_rfl) (by kernel_rfl) (by kernel_rfl) (X.dwN rfl) (fun w' hk' => X.fldB (j := 1) Tryd.underlying33 rfl rfl Tryd.sizeOf22 rfl) ?_
      refine X.dTake 3 rfl (by kernel_rfl) (by kernel_rfl) (by kernel_rfl) (X.dwN rfl) (fun w' hk' => X.load1B Tryd.isAgg22 ((((hB1.keep ((hk2.trans hk11).trans hk12)).ext hx13 (by intros; (try simp only []); omega)).keep hk14).ext hk' (by intros; (try simp only []); omega)) rfl rfl) ?_
      have q16 := (hM13.keep hk14).slF KB_flat 0 (fun _ _ => Nat.zero_le _)
      obtain ⟨A16, c16, rfl, hc16, hs16⟩ := q16
      refine X.dE (i := 1) (by kernel_rfl) rfl (X.dwN rfl) (X.callE ((RSeal_c _ hs16 (by (try simp only [hlo, hsl, List.length_append, List.length_cons, List.length_nil, List.length_take, List.length_drop, List.length_map, List.length_range]); omega)).mono freshB) Tryd.call16 rfl rfl) (by rintro _ w15 ⟨A15, c15, rfl, hc15, hs15, hM15, hk15⟩ _; exact hk15.mono (fun _ _ h => h.elim)) ?_
      rintro _ w15 ⟨A15, c15, rfl, hc15, hs15, hM15, hk15⟩
      have hk15' := hk15.size
      refine X.dE (i := 4) (by kernel_rfl) rfl (X.dwN rfl) (X.callE ((RSeal_c _ (hs.keep ((((((hk1.trans hk2).trans hk11).trans hk12).step hx13 (by intros; (try simp only [] at *); omega)).trans hk14).trans hk15)) (by (try simp only [hlo, hsl, List.length_append, List.length_cons, List.length_nil, List.length_take, List.length_drop, List.length_map, List.length_range]); omega)).mono freshB) Tryd.call16 rfl rfl) (by rintro _ w17 ⟨A17, c17, rfl, hc17, hs17, hM17, hk17⟩ _; exact hk17.mono (fun _ _ h => h.elim)) ?_
      rintro _ w17 ⟨A17, c17, rfl, hc17, hs17, hM17, hk17⟩
      have hk17' := hk17.size
      refine X.dE (i := 5) (by kernel_rfl) rfl (X.dwN rfl) (X.appE (K := KB) (S := fun k => w13.heap.size ≤ k) KB_flat Tryd.underlying22 E8 rfl rfl (Mine.mono (T := fun k => w13.heap.size ≤ k) (hM15.keep hk17) (fun k h1 h2 => by (try simp only [] at *); omega)) hs17 (by (try simp only [hlo, hsl, List.length_append, List.length_cons, List.length_nil, List.length_take, List.length_drop, List.length_map, List.length_range]); omega) (by intros; (try simp only [] at *); omega)) (by rintro v18 w18 ⟨hM18, hx18⟩ _; exact hx18) ?_
      rintro v18 w18 ⟨hM18, hx18⟩
      have hx18' := hx18.size
      refine X.dStep (i := 6) (by kernel_rfl) rfl (X.dwN rfl) (X.assign rfl) (fun h => absurd h (by decide)) ?_
      refine X.dStep (i := 7) (by kernel_rfl) rfl (X.dwN rfl) (X.assign rfl) (fun h => absurd h (by decide)) ?_
      refine X.dEnd (by kernel_rfl) ?_
      refine X.ret2 (v2 := (.int .i64 _)) Tryd.func26 Tryd.results26 rfl rfl ?_
      rw [frameC, if_neg (by omega), hl]
      exact ⟨_, rfl, (hM18.step (T := fun k => w.heap.size ≤ k) (fun k h => by (try simp only [] at *); omega)), ((((((((hk1.trans hk2).trans hk11).trans hk12).step hx13 (by intros; (try simp only [] at *); omega)).trans hk14).trans hk15).trans hk17).step hx18 (by intros; (try simp only [] at *); omega))⟩
end Go.Proofs.YtleaidgngkfjbaaDoor
