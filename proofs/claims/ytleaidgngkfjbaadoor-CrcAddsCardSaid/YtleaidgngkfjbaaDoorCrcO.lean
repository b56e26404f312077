/- The walk of the law CrcAdds. -/
import Derived.Test.YtleaidgngkfjbaaDoorCrcM
import Derived.Test.YtleaidgngkfjbaaDoorXSls
namespace Go.Proofs.YtleaidgngkfjbaaDoor
open Go Go.Proofs.YtleaidgngkfjbaaDoor.X
set_option linter.unusedVariables false
set_option linter.unusedSimpArgs false

theorem quoN (a : Nat) (h : a ≤ 9223372036854775807) : IntKind.i64.wrap (((a : Nat) : Int).tdiv 2) = ((a / 2 : Nat) : Int) := by
  show IntKind.i64.wrap ((a / 2 : Nat) : Int) = _
  exact w_i64 (by omega)
theorem add_1 (r : R32) (xs p : List UInt8) (b : Nat) (w : World) (h : Blk w b (addC (moreC (moreC r xs) [p].flatten) ((xs.length : Int) + ([p].flatten.length : Int)) true) 45) : Blk w b (addC (moreC r (xs ++ p)) ((xs ++ p).length : Int) true) 45 := by
  rw [show [p].flatten = p by simp, ← moreC_app, ← Int.natCast_add, ← List.length_append] at h; exact h
theorem add_3 (r : R32) (xs p : List UInt8) (k : Nat) (b : Nat) (w : World) (h : Blk w b (addC (moreC (moreC r xs) [p.take k, p.drop k, []].flatten) ((xs.length : Int) + ([p.take k, p.drop k, []].flatten.length : Int)) true) 45) : Blk w b (addC (moreC r (xs ++ p)) ((xs ++ p).length : Int) true) 45 := by
  rw [show [p.take k, p.drop k, []].flatten = p by simp, ← moreC_app, ← Int.natCast_add, ← List.length_append] at h; exact h
-- f21 "(*pedigree/crc.Adder).Add" params [39, 38] results [] -> [] nfree 0 ntmps 34 names ["a", "parts", "a",
set_option maxHeartbeats 4000000 in
set_option maxRecDepth 100000 in
theorem AddN_c (v : Value) (w : World) : Ret Tryd.prog 21 #[.pointer none, v] w fun r w' => r = .tuple #[] ∧ Keep w w' := by
  refine X.enter Tryd.func21 rfl Tryd.ntmps21 rfl ?_
  refine X.seq ?_
  refine X.seq ?_
  refine X.region ?_
  refine X.opw X.wN rfl (X.move rfl) ?_
  refine X.opE X.wN rfl (X.callE (isN_c _) Tryd.call40 rfl rfl) ?_
  rintro _ w1 ⟨rfl, hk1⟩
  have hk1' := hk1.size
  refine X.opw X.wN rfl (X.not_ rfl) ?_
  refine X.opsEnd ?_
  refine X.condB rfl (fun hc => ?_) (fun hc => ?_)
  · refine X.ret0 Tryd.func21 Tryd.results21 ?_
    exact ⟨rfl, hk1⟩
  · cases hc
-- f21 "(*pedigree/crc.Adder).Add" params [39, 38] results [] -> [] nfree 0 ntmps 34 names ["a", "parts", "a",
set_option maxHeartbeats 4000000 in
set_option maxRecDepth 100000 in
theorem AddF_c (r : R32) (N : Int) (b : Nat) (v : Value) (w : World) (hB : Blk w b (addC r N false) 45) : Ret Tryd.prog 21 #[.pointer (some ⟨b, 0, none⟩), v] w fun r w' => r = .tuple #[] ∧ Keep w w' := by
  refine X.enter Tryd.func21 rfl Tryd.ntmps21 rfl ?_
  refine X.seq ?_
  refine X.seq ?_
  refine X.region ?_
  refine X.opw X.wN rfl (X.move rfl) ?_
  refine X.opE X.wN rfl (X.callE (is_c r N false _ _ hB) Tryd.call40 rfl rfl) ?_
  rintro _ w1 ⟨rfl, hk1⟩
  have hk1' := hk1.size
  refine X.opw X.wN rfl (X.not_ rfl) ?_
  refine X.opsEnd ?_
  refine X.condB rfl (fun hc => ?_) (fun hc => ?_)
  · refine X.ret0 Tryd.func21 Tryd.results21 ?_
    exact ⟨rfl, hk1⟩
  · cases hc
-- f5 "pedigree/pedigreelaw04.CrcAdds" params [38] results [4] -> [(ResultVar.tmp 2)] nfree 0 ntmps 94 names [
set_option maxHeartbeats 4000000 in
set_option maxRecDepth 100000 in
theorem CrcAdds_c (w : World) (hT : TabOk w) (A : Option Addr) (n c : Nat) (ls : List (List UInt8)) (hc0 : n ≤ c) (s1 : Sl (Kd.slice KB) 0 w.heap.size w A n ls) :
    Ret Tryd.prog 5 #[.slice A n c] w fun r w' => r = .bool true ∧ Keep w w' := by
  obtain ⟨vs, hs, hr⟩ := s1.rows
  have hl := hs.len
  have hll := hr.len
  have hbd := hs.bound
  have hTl := hT.lt
  refine X.enter Tryd.func5 rfl Tryd.ntmps5 rfl ?_
  refine X.seq ?_
  refine X.region ?_
  refine X.opw X.wN rfl (X.assign rfl) ?_
  refine X.opsEnd ?_
  refine X.seq ?_
  refine X.seq ?_
  refine X.region ?_
  refine X.opE X.wN rfl (X.callE (awake_c _ (hT.keep (Keep.refl _))) Tryd.call17 rfl rfl) ?_
  rintro _ w1 ⟨rfl, hk1⟩
  have hk1' := hk1.size
  refine X.opw X.wN rfl (X.not_ rfl) ?_
  refine X.opsEnd ?_
  refine X.condB rfl (fun hc => ?_) (fun hc => ?_)
  · cases hc
  · refine X.skip ?_
    refine X.seq ?_
    refine X.region ?_
    refine X.opE X.wN rfl (X.callE (New_c _) Tryd.call20 rfl rfl) ?_
    rintro _ w2 ⟨rfl, hB2, hk2, hz2⟩
    refine X.opw X.wN rfl (X.assign rfl) ?_
    refine X.opsEnd ?_
    refine X.seq ?_
    refine X.region ?_
    refine X.opw X.wN rfl (X.assign rfl) ?_
    refine X.opsEnd ?_
    refine X.seq ?_
    refine X.region ?_
    refine X.opw X.wN rfl (X.assign rfl) ?_
    refine X.opsEnd ?_
    refine X.seq ?_
    refine X.seq ?_
    refine X.region ?_
    refine X.opw X.wN rfl (X.assign rfl) ?_
    refine X.opsEnd ?_
    refine X.block ?_
    -- LOOP live: 0=parts, 3=a, 4=none, 5=all*, 6=i*
    refine X.loopL (σ := Nat × Value × List UInt8) (fun s => [(0, .slice A n c), (3, .pointer (some ⟨w1.heap.size, 0, none⟩)), (4, .pointer none), (5, s.2.1), (6, .int .i64 (s.1 : Int))]) (fun s w' => s.1 ≤ 40 ∧ Blk w' w1.heap.size (addC (moreC (BitVec.ofNat 32 4294967295) s.2.2) (s.2.2.length : Int) true) 45 ∧ Mine KB 5 (fun k => w1.heap.size < k) 0 0 w' s.2.1 s.2.2 ∧ s.2.2.length ≤ s.1 * 200 ∧ Keep w w') (fun s => 40 - s.1) (0, _, []) ⟨rfl, rfl, rfl, rfl, rfl, trivial⟩ ⟨by simp, hB2, (Mine.nil _ _ _ _ _ _), by simp, (hk1.trans hk2)⟩ ?_
    rintro ⟨i, v, xs⟩ b0 wl ⟨hi0, hB0, hM0, hx0, hk⟩ hback
    dsimp only
    simp only at hi0 hB0 hM0 hx0
    have hk' := hk.size
    have hbl := hB0.lt
    refine X.seq ?_
    refine X.seq ?_
    refine X.region ?_
    refine X.opw X.wN rfl (X.move (v := .int .i64 _) rfl) ?_
    refine X.opw X.wN rfl (X.move (v := .slice _ _ _) rfl) ?_
    refine X.opw X.wN rfl (X.lenSl Tryd.underlying38 rfl) ?_
    refine X.opP X.wN rfl rfl (X.lss rfl rfl) (fun h15 => ?_) (fun h15 => ?_)
    · obtain ⟨y, hx⟩ := getN i hl h15
      obtain ⟨x, A1, n1, c1, hy2, rfl, hcc1, hs1⟩ := hr.get hx
      have hs1l := hs1.len
      refine X.opw X.wN rfl (X.move (v := .bool true) rfl) ?_
      refine X.opw (X.wG rfl rfl rfl) rfl (X.move (v := .int .i64 _) rfl) ?_
      refine X.opP (X.wG rfl rfl rfl) rfl rfl (X.lss rfl rfl) (fun h18 => ?_) (fun h18 => ?_)
      · refine X.opw X.wN rfl (X.pickT (v := .bool true) rfl rfl) ?_
        refine X.opsEnd ?_
        refine X.condT rfl ?_
        refine X.skip ?_
        refine X.seq ?_
        refine X.block ?_
        refine X.seq ?_
        refine X.region ?_
        refine X.opw X.wN rfl (X.move (v := .slice _ _ _) rfl) ?_
        refine X.opw X.wN rfl (X.move (v := .int .i64 _) rfl) ?_
        refine X.opw X.wN rfl (X.idxS (hs.keep hk) Tryd.underlying38 Tryd.sizeOf22 rfl rfl ⟨by omega, by omega⟩) ?_
        refine X.opw X.wN rfl (X.loadS Tryd.isAgg22 (hs.keep hk) hx rfl (fun _ h => by rw [h.1]; rfl)) ?_
        refine X.opw X.wN rfl (X.assign (v := .slice _ _ _) rfl) ?_
        refine X.opsEnd ?_
        refine X.seq ?_
        refine X.seq ?_
        refine X.region ?_
        refine X.opw X.wN rfl (X.move (v := .slice _ _ _) rfl) ?_
        refine X.opw X.wN rfl (X.lenSl Tryd.underlying22 rfl) ?_
        refine X.opP X.wN rfl rfl (X.gtr rfl rfl) (fun h28 => ?_) (fun h28 => ?_)
        · have hpl : ((x.take 200)).length ≤ 200 := by (try simp only [List.length_take]); omega
          refine X.opsEnd ?_
          refine X.condT rfl ?_
          refine X.region ?_
          refine X.opw X.wN rfl (X.move (v := .slice _ _ _) rfl) ?_
          refine X.opw X.wN rfl (X.cutHr Tryd.underlying22 Tryd.sizeOf5 rfl rfl (by omega)) ?_
          refine X.opw X.wN rfl (X.assign (v := .slice _ _ _) rfl) ?_
          refine X.opsEnd ?_
          refine X.seq ?_
          refine X.seq ?_
          refine X.region ?_
          refine X.opw X.wN rfl (X.move (v := .int .i64 _) rfl) ?_
          refine X.opw X.wN rfl (X.rem rfl rfl (by decide) rfl) ?_
          refine X.opP X.wN rfl rfl (X.eqI rfl rfl) (fun h33 => ?_) (fun h33 => ?_)
          · 
            refine X.opsEnd ?_
            refine X.condT rfl ?_
            refine X.region ?_
            refine X.opw X.wN rfl (X.move rfl) ?_
            refine X.opw X.wN rfl (X.move (v := .slice _ _ _) rfl) ?_
            refine X.opE X.wN rfl (X.litKF KR1_flat (K := KR1) (xs := [Operand.tmp 35]) (vs := [.slice A1 200 c1]) (ys := [.slice A1 200 c1]) Tryd.underlying38 Tryd.sizeOf22 Tryd.zeroValue22 rfl rfl rfl rfl rfl ⟨⟨_, rfl, rfl, rfl⟩, trivial⟩) ?_
            rintro _ w3 ⟨rfl, hs3, hB3, hk3, hz3⟩
            refine X.opE X.wN rfl (X.callE (Add_c (moreC (BitVec.ofNat 32 4294967295) xs) (xs.length : Int) (by omega) w1.heap.size (lo2 := 0) (hi2 := w.heap.size) (ls := [(x.take 200)]) _ (hB0.keep hk3) hs3 ⟨⟨_, _, _, rfl, by omega, ((hs1.take 200 (by omega)).keep (hk.trans hk3))⟩, trivial⟩ (by omega) (by omega) (by omega) (by simp only [hs1l, List.flatten_cons, List.flatten_nil, List.length_append, List.length_take, List.length_drop, List.length_nil, List.append_nil]; omega) (hT.keep (hk.trans hk3))) Tryd.call21 rfl rfl) ?_
            rintro _ w4 ⟨rfl, hB4, hx4⟩
            have hx4' := hx4.size
            refine X.opsEnd ?_
            refine X.seq ?_
            refine X.region ?_
            refine X.opw X.wN rfl (X.move rfl) ?_
            refine X.opw X.wN rfl (X.move (v := .slice _ _ _) rfl) ?_
            refine X.opE X.wN rfl (X.litKF KR1_flat (K := KR1) (xs := [Operand.tmp 52]) (vs := [.slice A1 200 c1]) (ys := [.slice A1 200 c1]) Tryd.underlying38 Tryd.sizeOf22 Tryd.zeroValue22 rfl rfl rfl rfl rfl ⟨⟨_, rfl, rfl, rfl⟩, trivial⟩) ?_
            rintro _ w5 ⟨rfl, hs5, hB5, hk5, hz5⟩
            refine X.opE X.wN rfl (X.callE (AddN_c _ _) Tryd.call21 rfl rfl) ?_
            rintro _ w6 ⟨rfl, hk6⟩
            have hk6' := hk6.size
            refine X.opsEnd ?_
            refine X.seq ?_
            refine X.region ?_
            refine X.opw X.wN rfl (X.move rfl) ?_
            refine X.opw X.wN rfl (X.move (v := .slice _ _ _) rfl) ?_
            refine X.opE X.wN rfl (X.appE (K := KB) (S := fun k => w1.heap.size < k) KB_flat Tryd.underlying22 E8 rfl rfl (((hM0.keep hk3).ext hx4 (by intros; (try simp only []); omega) (by intros; (try simp only []); omega)).keep (hk5.trans hk6)) ((hs1.take 200 (by omega)).keep ((((hk.trans hk3).step hx4 (by intros; (try simp only [] at *); omega)).trans hk5).trans hk6)) (by (try simp only [List.length_append, List.length_cons, List.length_nil, List.length_take, List.length_drop, List.length_map, List.length_range]); omega) (by intros; (try simp only [] at *); omega)) ?_
            rintro v7 w7 ⟨hM7, hx7⟩
            have hx7' := hx7.size
            refine X.opw X.wN rfl (X.assign rfl) ?_
            refine X.opsEnd ?_
            refine X.seq ?_
            refine X.region ?_
            refine X.opw X.wN rfl (X.move rfl) ?_
            refine X.opE X.wN rfl (X.callE (ASum_c _ _ _ _ ((hB4.keep (hk5.trans hk6)).ext hx7 (by intros; (try simp only []); omega))) Tryd.call22 rfl rfl) ?_
            rintro _ w8 ⟨rfl, hk8⟩
            have hk8' := hk8.size
            refine X.opw X.wN rfl (X.move rfl) ?_
            have q10 := (hM7.keep hk8).slF KB_flat 0 (fun _ _ => Nat.zero_le _)
            obtain ⟨A10, c10, rfl, hc10, hs10⟩ := q10
            refine X.opE X.wN rfl (X.callE (RSum_c _ hs10) Tryd.call14 rfl rfl) ?_
            rintro _ w9 ⟨rfl, hk9⟩
            have hk9' := hk9.size
            refine X.opP X.wN rfl rfl (X.neI rfl rfl) (fun h62 => ?_) (fun h62 => ?_)
            · exact (h62 (by rw [sumC, moreC_app]; simp)).elim
            · refine X.opw X.wN rfl (X.move (v := .bool false) rfl) ?_
              refine X.opw (X.wG rfl rfl rfl) rfl (X.move rfl) ?_
              refine X.opE (X.wG rfl rfl rfl) rfl (X.callE (ALen_c _ _ _ _ (((hB4.keep (hk5.trans hk6)).ext hx7 (by intros; (try simp only []); omega)).keep (hk8.trans hk9))) Tryd.call23 rfl rfl) ?_
              rintro _ w11 ⟨rfl, hk11⟩
              have hk11' := hk11.size
              refine X.opw (X.wG rfl rfl rfl) rfl (X.move rfl) ?_
              refine X.opw (X.wG rfl rfl rfl) rfl (X.lenSl Tryd.underlying22 rfl) ?_
              refine X.opP (X.wG rfl rfl rfl) rfl rfl (X.neI rfl rfl) (fun h68 => ?_) (fun h68 => ?_)
              · exact (h68 (by simp [List.length_append]; try omega)).elim
              · refine X.opw X.wN rfl (X.pickF (v := .bool false) rfl rfl) ?_
                refine X.opsEnd ?_
                refine X.condF rfl ?_
                refine X.skip ?_
                refine X.inBlock ?_
                refine X.region ?_
                refine X.opw X.wN rfl (X.move (v := .int .i64 _) rfl) ?_
                refine X.opw X.wN rfl (X.add rfl rfl (X.w_i64 (by omega))) ?_
                refine X.opw X.wN rfl (X.assign (v := .int .i64 _) rfl) ?_
                refine X.opsEnd ?_
                refine hback (i + 1, _, xs ++ (x.take 200)) _ _ ⟨rfl, rfl, rfl, rfl, rfl, trivial⟩ ⟨by dsimp only; omega, (add_1 _ _ _ _ _ (((hB4.keep (hk5.trans hk6)).ext hx7 (by intros; (try simp only []); omega)).keep ((hk8.trans hk9).trans hk11))), (Mine.mono (T := fun k => w1.heap.size < k) (hM7.keep ((hk8.trans hk9).trans hk11)) (fun k h1 h2 => by (try simp only [] at *); omega)), by rw [List.length_append]; dsimp only; omega, ((((((((hk.trans hk3).step hx4 (by intros; (try simp only [] at *); omega)).trans hk5).trans hk6).step hx7 (by intros; (try simp only [] at *); omega)).trans hk8).trans hk9).trans hk11)⟩ (by dsimp only; omega)
          · 
            refine X.opsEnd ?_
            refine X.condF rfl ?_
            refine X.regionD (fun k => k = w1.heap.size ∨ wl.heap.size ≤ k) 13 (by kernel_rfl) (by kernel_rfl) (fun w12 hk12 hz12 => ?_)
            refine X.dTake 0 rfl (by kernel_rfl) (by kernel_rfl) (by kernel_rfl) (X.dwN rfl) (fun w' hk' => X.move rfl) ?_
            refine X.dTake 1 rfl (by kernel_rfl) (by kernel_rfl) (by kernel_rfl) (X.dwN rfl) (fun w' hk' => X.move (v := .slice _ _ _) rfl) ?_
            refine X.dTake 2 rfl (by kernel_rfl) (by kernel_rfl) (by kernel_rfl) (X.dwN rfl) (fun w' hk' => X.move (v := .slice _ _ _) rfl) ?_
            refine X.dTake 3 rfl (by kernel_rfl) (by kernel_rfl) (by kernel_rfl) (X.dwN rfl) (fun w' hk' => X.lenSl Tryd.underlying22 rfl) ?_
            refine X.dTake 4 rfl (by kernel_rfl) (by kernel_rfl) (by kernel_rfl) (X.dwN rfl) (fun w' hk' => X.quo (c := ((200 / 2 : Nat) : Int)) rfl rfl (by decide) (quoN 200 (by omega))) ?_
            refine X.dTake 5 rfl (by kernel_rfl) (by kernel_rfl) (by kernel_rfl) (X.dwN rfl) (fun w' hk' => X.cutHr Tryd.underlying22 Tryd.sizeOf5 rfl rfl (by omega)) ?_
            refine X.dTake 6 rfl (by kernel_rfl) (by kernel_rfl) (by kernel_rfl) (X.dwN rfl) (fun w' hk' => X.move (v := .slice _ _ _) rfl) ?_
            refine X.dTake 7 rfl (by kernel_rfl) (by kernel_rfl) (by kernel_rfl) (X.dwN rfl) (fun w' hk' => X.move (v := .slice _ _ _) rfl) ?_
            refine X.dTake 8 rfl (by kernel_rfl) (by kernel_rfl) (by kernel_rfl) (X.dwN rfl) (fun w' hk' => X.lenSl Tryd.underlying22 rfl) ?_
            refine X.dTake 9 rfl (by kernel_rfl) (by kernel_rfl) (by kernel_rfl) (X.dwN rfl) (fun w' hk' => X.quo (c := ((200 / 2 : Nat) : Int)) rfl rfl (by decide) (quoN 200 (by omega))) ?_
            refine X.dTake 10 rfl (by kernel_rfl) (by kernel_rfl) (by kernel_rfl) (X.dwN rfl) (fun w' hk' => X.cutL Tryd.underlying22 Tryd.sizeOf5 rfl rfl (by omega)) ?_
            refine X.dE (i := 11) (by kernel_rfl) rfl (X.dwN rfl) (X.litKF KR1_flat (K := KR1) (xs := [Operand.tmp 43, Operand.tmp 48, Operand.const (.slice none 0 0)]) (vs := [.slice A1 (((200 / 2 : Nat) : Int).toNat) c1, .slice (if c1 = (((200 / 2 : Nat) : Int).toNat) then A1 else A1.map (·.add ((((200 / 2 : Nat) : Int).toNat) * 1))) (200 - (((200 / 2 : Nat) : Int).toNat)) (c1 - (((200 / 2 : Nat) : Int).toNat)), .slice none 0 0]) (ys := [.slice A1 (((200 / 2 : Nat) : Int).toNat) c1, .slice (if c1 = (((200 / 2 : Nat) : Int).toNat) then A1 else A1.map (·.add ((((200 / 2 : Nat) : Int).toNat) * 1))) (200 - (((200 / 2 : Nat) : Int).toNat)) (c1 - (((200 / 2 : Nat) : Int).toNat)), .slice none 0 0]) Tryd.underlying38 Tryd.sizeOf22 Tryd.zeroValue22 rfl rfl rfl rfl rfl ⟨⟨_, rfl, rfl, rfl⟩, ⟨_, rfl, rfl, rfl⟩, ⟨_, rfl, rfl, rfl⟩, trivial⟩) (by rintro _ w13 ⟨rfl, hs13, hB13, hk13, hz13⟩ _; exact hk13.mono (fun _ _ h => h.elim)) ?_
            rintro _ w13 ⟨rfl, hs13, hB13, hk13, hz13⟩
            refine X.dE (i := 12) (by kernel_rfl) rfl (X.dwN rfl) (X.callE (Add_c (moreC (BitVec.ofNat 32 4294967295) xs) (xs.length : Int) (by omega) w1.heap.size (lo2 := 0) (hi2 := w.heap.size) (ls := [List.take (((200 / 2 : Nat) : Int).toNat) (x.take 200), List.drop (((200 / 2 : Nat) : Int).toNat) (x.take 200), []]) _ (hB0.keep (hk12.trans hk13)) hs13 ⟨⟨_, _, _, rfl, by omega, (((hs1.take 200 (by omega)).take (((200 / 2 : Nat) : Int).toNat) (by omega)).keep ((hk.trans hk12).trans hk13))⟩, ⟨_, _, _, rfl, by omega, (((hs1.take 200 (by omega)).drop (((200 / 2 : Nat) : Int).toNat) c1 (by omega) (by omega)).keep ((hk.trans hk12).trans hk13))⟩, ⟨_, _, _, rfl, Nat.le_refl _, Sl.nil _ _ _ _ _⟩, trivial⟩ (by omega) (by omega) (by omega) (by simp only [hs1l, List.flatten_cons, List.flatten_nil, List.length_append, List.length_take, List.length_drop, List.length_nil, List.append_nil]; omega) (hT.keep ((hk.trans hk12).trans hk13))) Tryd.call21 rfl rfl) (by rintro _ w14 ⟨rfl, hB14, hx14⟩ _; exact hx14.mono (fun k _ h => by (try simp only [] at *); omega)) ?_
            rintro _ w14 ⟨rfl, hB14, hx14⟩
            have hx14' := hx14.size
            refine X.dEnd (by kernel_rfl) ?_
            refine X.seq ?_
            refine X.region ?_
            refine X.opw X.wN rfl (X.move rfl) ?_
            refine X.opw X.wN rfl (X.move (v := .slice _ _ _) rfl) ?_
            refine X.opE X.wN rfl (X.litKF KR1_flat (K := KR1) (xs := [Operand.tmp 52]) (vs := [.slice A1 200 c1]) (ys := [.slice A1 200 c1]) Tryd.underlying38 Tryd.sizeOf22 Tryd.zeroValue22 rfl rfl rfl rfl rfl ⟨⟨_, rfl, rfl, rfl⟩, trivial⟩) ?_
            rintro _ w15 ⟨rfl, hs15, hB15, hk15, hz15⟩
            refine X.opE X.wN rfl (X.callE (AddN_c _ _) Tryd.call21 rfl rfl) ?_
            rintro _ w16 ⟨rfl, hk16⟩
            have hk16' := hk16.size
            refine X.opsEnd ?_
            refine X.seq ?_
            refine X.region ?_
            refine X.opw X.wN rfl (X.move rfl) ?_
            refine X.opw X.wN rfl (X.move (v := .slice _ _ _) rfl) ?_
            refine X.opE X.wN rfl (X.appE (K := KB) (S := fun k => w1.heap.size < k) KB_flat Tryd.underlying22 E8 rfl rfl (((hM0.keep (hk12.trans hk13)).ext hx14 (by intros; (try simp only []); omega) (by intros; (try simp only []); omega)).keep (hk15.trans hk16)) ((hs1.take 200 (by omega)).keep (((((hk.trans hk12).trans hk13).step hx14 (by intros; (try simp only [] at *); omega)).trans hk15).trans hk16)) (by (try simp only [List.length_append, List.length_cons, List.length_nil, List.length_take, List.length_drop, List.length_map, List.length_range]); omega) (by intros; (try simp only [] at *); omega)) ?_
            rintro v17 w17 ⟨hM17, hx17⟩
            have hx17' := hx17.size
            refine X.opw X.wN rfl (X.assign rfl) ?_
            refine X.opsEnd ?_
            refine X.seq ?_
            refine X.region ?_
            refine X.opw X.wN rfl (X.move rfl) ?_
            refine X.opE X.wN rfl (X.callE (ASum_c _ _ _ _ ((hB14.keep (hk15.trans hk16)).ext hx17 (by intros; (try simp only []); omega))) Tryd.call22 rfl rfl) ?_
            rintro _ w18 ⟨rfl, hk18⟩
            have hk18' := hk18.size
            refine X.opw X.wN rfl (X.move rfl) ?_
            have q20 := (hM17.keep hk18).slF KB_flat 0 (fun _ _ => Nat.zero_le _)
            obtain ⟨A20, c20, rfl, hc20, hs20⟩ := q20
            refine X.opE X.wN rfl (X.callE (RSum_c _ hs20) Tryd.call14 rfl rfl) ?_
            rintro _ w19 ⟨rfl, hk19⟩
            have hk19' := hk19.size
            refine X.opP X.wN rfl rfl (X.neI rfl rfl) (fun h62 => ?_) (fun h62 => ?_)
            · exact (h62 (by rw [sumC, moreC_app]; simp)).elim
            · refine X.opw X.wN rfl (X.move (v := .bool false) rfl) ?_
              refine X.opw (X.wG rfl rfl rfl) rfl (X.move rfl) ?_
              refine X.opE (X.wG rfl rfl rfl) rfl (X.callE (ALen_c _ _ _ _ (((hB14.keep (hk15.trans hk16)).ext hx17 (by intros; (try simp only []); omega)).keep (hk18.trans hk19))) Tryd.call23 rfl rfl) ?_
              rintro _ w21 ⟨rfl, hk21⟩
              have hk21' := hk21.size
              refine X.opw (X.wG rfl rfl rfl) rfl (X.move rfl) ?_
              refine X.opw (X.wG rfl rfl rfl) rfl (X.lenSl Tryd.underlying22 rfl) ?_
              refine X.opP (X.wG rfl rfl rfl) rfl rfl (X.neI rfl rfl) (fun h68 => ?_) (fun h68 => ?_)
              · exact (h68 (by simp [List.length_append]; try omega)).elim
              · refine X.opw X.wN rfl (X.pickF (v := .bool false) rfl rfl) ?_
                refine X.opsEnd ?_
                refine X.condF rfl ?_
                refine X.skip ?_
                refine X.inBlock ?_
                refine X.region ?_
                refine X.opw X.wN rfl (X.move (v := .int .i64 _) rfl) ?_
                refine X.opw X.wN rfl (X.add rfl rfl (X.w_i64 (by omega))) ?_
                refine X.opw X.wN rfl (X.assign (v := .int .i64 _) rfl) ?_
                refine X.opsEnd ?_
                refine hback (i + 1, _, xs ++ (x.take 200)) _ _ ⟨rfl, rfl, rfl, rfl, rfl, trivial⟩ ⟨by dsimp only; omega, (add_3 _ _ _ _ _ _ (((hB14.keep (hk15.trans hk16)).ext hx17 (by intros; (try simp only []); omega)).keep ((hk18.trans hk19).trans hk21))), (Mine.mono (T := fun k => w1.heap.size < k) (hM17.keep ((hk18.trans hk19).trans hk21)) (fun k h1 h2 => by (try simp only [] at *); omega)), by rw [List.length_append]; dsimp only; omega, (((((((((hk.trans hk12).trans hk13).step hx14 (by intros; (try simp only [] at *); omega)).trans hk15).trans hk16).step hx17 (by intros; (try simp only [] at *); omega)).trans hk18).trans hk19).trans hk21)⟩ (by dsimp only; omega)
        · have hpl : (x).length ≤ 200 := by (try simp only [List.length_take]); omega
          refine X.opsEnd ?_
          refine X.condF rfl ?_
          refine X.skip ?_
          refine X.seq ?_
          refine X.seq ?_
          refine X.region ?_
          refine X.opw X.wN rfl (X.move (v := .int .i64 _) rfl) ?_
          refine X.opw X.wN rfl (X.rem rfl rfl (by decide) rfl) ?_
          refine X.opP X.wN rfl rfl (X.eqI rfl rfl) (fun h33 => ?_) (fun h33 => ?_)
          · 
            refine X.opsEnd ?_
            refine X.condT rfl ?_
            refine X.region ?_
            refine X.opw X.wN rfl (X.move rfl) ?_
            refine X.opw X.wN rfl (X.move (v := .slice _ _ _) rfl) ?_
            refine X.opE X.wN rfl (X.litKF KR1_flat (K := KR1) (xs := [Operand.tmp 35]) (vs := [.slice A1 n1 c1]) (ys := [.slice A1 n1 c1]) Tryd.underlying38 Tryd.sizeOf22 Tryd.zeroValue22 rfl rfl rfl rfl rfl ⟨⟨_, rfl, rfl, rfl⟩, trivial⟩) ?_
            rintro _ w22 ⟨rfl, hs22, hB22, hk22, hz22⟩
            refine X.opE X.wN rfl (X.callE (Add_c (moreC (BitVec.ofNat 32 4294967295) xs) (xs.length : Int) (by omega) w1.heap.size (lo2 := 0) (hi2 := w.heap.size) (ls := [x]) _ (hB0.keep hk22) hs22 ⟨⟨_, _, _, rfl, by omega, (hs1.keep (hk.trans hk22))⟩, trivial⟩ (by omega) (by omega) (by omega) (by simp only [hs1l, List.flatten_cons, List.flatten_nil, List.length_append, List.length_take, List.length_drop, List.length_nil, List.append_nil]; omega) (hT.keep (hk.trans hk22))) Tryd.call21 rfl rfl) ?_
            rintro _ w23 ⟨rfl, hB23, hx23⟩
            have hx23' := hx23.size
            refine X.opsEnd ?_
            refine X.seq ?_
            refine X.region ?_
            refine X.opw X.wN rfl (X.move rfl) ?_
            refine X.opw X.wN rfl (X.move (v := .slice _ _ _) rfl) ?_
            refine X.opE X.wN rfl (X.litKF KR1_flat (K := KR1) (xs := [Operand.tmp 52]) (vs := [.slice A1 n1 c1]) (ys := [.slice A1 n1 c1]) Tryd.underlying38 Tryd.sizeOf22 Tryd.zeroValue22 rfl rfl rfl rfl rfl ⟨⟨_, rfl, rfl, rfl⟩, trivial⟩) ?_
            rintro _ w24 ⟨rfl, hs24, hB24, hk24, hz24⟩
            refine X.opE X.wN rfl (X.callE (AddN_c _ _) Tryd.call21 rfl rfl) ?_
            rintro _ w25 ⟨rfl, hk25⟩
            have hk25' := hk25.size
            refine X.opsEnd ?_
            refine X.seq ?_
            refine X.region ?_
            refine X.opw X.wN rfl (X.move rfl) ?_
            refine X.opw X.wN rfl (X.move (v := .slice _ _ _) rfl) ?_
            refine X.opE X.wN rfl (X.appE (K := KB) (S := fun k => w1.heap.size < k) KB_flat Tryd.underlying22 E8 rfl rfl (((hM0.keep hk22).ext hx23 (by intros; (try simp only []); omega) (by intros; (try simp only []); omega)).keep (hk24.trans hk25)) (hs1.keep ((((hk.trans hk22).step hx23 (by intros; (try simp only [] at *); omega)).trans hk24).trans hk25)) (by (try simp only [List.length_append, List.length_cons, List.length_nil, List.length_take, List.length_drop, List.length_map, List.length_range]); omega) (by intros; (try simp only [] at *); omega)) ?_
            rintro v26 w26 ⟨hM26, hx26⟩
            have hx26' := hx26.size
            refine X.opw X.wN rfl (X.assign rfl) ?_
            refine X.opsEnd ?_
            refine X.seq ?_
            refine X.region ?_
            refine X.opw X.wN rfl (X.move rfl) ?_
            refine X.opE X.wN rfl (X.callE (ASum_c _ _ _ _ ((hB23.keep (hk24.trans hk25)).ext hx26 (by intros; (try simp only []); omega))) Tryd.call22 rfl rfl) ?_
            rintro _ w27 ⟨rfl, hk27⟩
            have hk27' := hk27.size
            refine X.opw X.wN rfl (X.move rfl) ?_
            have q29 := (hM26.keep hk27).slF KB_flat 0 (fun _ _ => Nat.zero_le _)
            obtain ⟨A29, c29, rfl, hc29, hs29⟩ := q29
            refine X.opE X.wN rfl (X.callE (RSum_c _ hs29) Tryd.call14 rfl rfl) ?_
            rintro _ w28 ⟨rfl, hk28⟩
            have hk28' := hk28.size
            refine X.opP X.wN rfl rfl (X.neI rfl rfl) (fun h62 => ?_) (fun h62 => ?_)
            · exact (h62 (by rw [sumC, moreC_app]; simp)).elim
            · refine X.opw X.wN rfl (X.move (v := .bool false) rfl) ?_
              refine X.opw (X.wG rfl rfl rfl) rfl (X.move rfl) ?_
              refine X.opE (X.wG rfl rfl rfl) rfl (X.callE (ALen_c _ _ _ _ (((hB23.keep (hk24.trans hk25)).ext hx26 (by intros; (try simp only []); omega)).keep (hk27.trans hk28))) Tryd.call23 rfl rfl) ?_
              rintro _ w30 ⟨rfl, hk30⟩
              have hk30' := hk30.size
              refine X.opw (X.wG rfl rfl rfl) rfl (X.move rfl) ?_
              refine X.opw (X.wG rfl rfl rfl) rfl (X.lenSl Tryd.underlying22 rfl) ?_
              refine X.opP (X.wG rfl rfl rfl) rfl rfl (X.neI rfl rfl) (fun h68 => ?_) (fun h68 => ?_)
              · exact (h68 (by simp [List.length_append]; try omega)).elim
              · refine X.opw X.wN rfl (X.pickF (v := .bool false) rfl rfl) ?_
                refine X.opsEnd ?_
                refine X.condF rfl ?_
                refine X.skip ?_
                refine X.inBlock ?_
                refine X.region ?_
                refine X.opw X.wN rfl (X.move (v := .int .i64 _) rfl) ?_
                refine X.opw X.wN rfl (X.add rfl rfl (X.w_i64 (by omega))) ?_
                refine X.opw X.wN rfl (X.assign (v := .int .i64 _) rfl) ?_
                refine X.opsEnd ?_
                refine hback (i + 1, _, xs ++ x) _ _ ⟨rfl, rfl, rfl, rfl, rfl, trivial⟩ ⟨by dsimp only; omega, (add_1 _ _ _ _ _ (((hB23.keep (hk24.trans hk25)).ext hx26 (by intros; (try simp only []); omega)).keep ((hk27.trans hk28).trans hk30))), (Mine.mono (T := fun k => w1.heap.size < k) (hM26.keep ((hk27.trans hk28).trans hk30)) (fun k h1 h2 => by (try simp only [] at *); omega)), by rw [List.length_append]; dsimp only; omega, ((((((((hk.trans hk22).step hx23 (by intros; (try simp only [] at *); omega)).trans hk24).trans hk25).step hx26 (by intros; (try simp only [] at *); omega)).trans hk27).trans hk28).trans hk30)⟩ (by dsimp only; omega)
          · 
            refine X.opsEnd ?_
            refine X.condF rfl ?_
            refine X.regionD (fun k => k = w1.heap.size ∨ wl.heap.size ≤ k) 13 (by kernel_rfl) (by kernel_rfl) (fun w31 hk31 hz31 => ?_)
            refine X.dTake 0 rfl (by kernel_rfl) (by kernel_rfl) (by kernel_rfl) (X.dwN rfl) (fun w' hk' => X.move rfl) ?_
            refine X.dTake 1 rfl (by kernel_rfl) (by kernel_rfl) (by kernel_rfl) (X.dwN rfl) (fun w' hk' => X.move (v := .slice _ _ _) rfl) ?_
            refine X.dTake 2 rfl (by kernel_rfl) (by kernel_rfl) (by kernel_rfl) (X.dwN rfl) (fun w' hk' => X.move (v := .slice _ _ _) rfl) ?_
            refine X.dTake 3 rfl (by kernel_rfl) (by kernel_rfl) (by kernel_rfl) (X.dwN rfl) (fun w' hk' => X.lenSl Tryd.underlying22 rfl) ?_
            refine X.dTake 4 rfl (by kernel_rfl) (by kernel_rfl) (by kernel_rfl) (X.dwN rfl) (fun w' hk' => X.quo (c := ((n1 / 2 : Nat) : Int)) rfl rfl (by decide) (quoN n1 (by omega))) ?_
            refine X.dTake 5 rfl (by kernel_rfl) (by kernel_rfl) (by kernel_rfl) (X.dwN rfl) (fun w' hk' => X.cutHr Tryd.underlying22 Tryd.sizeOf5 rfl rfl (by omega)) ?_
            refine X.dTake 6 rfl (by kernel_rfl) (by kernel_rfl) (by kernel_rfl) (X.dwN rfl) (fun w' hk' => X.move (v := .slice _ _ _) rfl) ?_
            refine X.dTake 7 rfl (by kernel_rfl) (by kernel_rfl) (by kernel_rfl) (X.dwN rfl) (fun w' hk' => X.move (v := .slice _ _ _) rfl) ?_
            refine X.dTake 8 rfl (by kernel_rfl) (by kernel_rfl) (by kernel_rfl) (X.dwN rfl) (fun w' hk' => X.lenSl Tryd.underlying22 rfl) ?_
            refine X.dTake 9 rfl (by kernel_rfl) (by kernel_rfl) (by kernel_rfl) (X.dwN rfl) (fun w' hk' => X.quo (c := ((n1 / 2 : Nat) : Int)) rfl rfl (by decide) (quoN n1 (by omega))) ?_
            refine X.dTake 10 rfl (by kernel_rfl) (by kernel_rfl) (by kernel_rfl) (X.dwN rfl) (fun w' hk' => X.cutL Tryd.underlying22 Tryd.sizeOf5 rfl rfl (by omega)) ?_
            refine X.dE (i := 11) (by kernel_rfl) rfl (X.dwN rfl) (X.litKF KR1_flat (K := KR1) (xs := [Operand.tmp 43, Operand.tmp 48, Operand.const (.slice none 0 0)]) (vs := [.slice A1 (((n1 / 2 : Nat) : Int).toNat) c1, .slice (if c1 = (((n1 / 2 : Nat) : Int).toNat) then A1 else A1.map (·.add ((((n1 / 2 : Nat) : Int).toNat) * 1))) (n1 - (((n1 / 2 : Nat) : Int).toNat)) (c1 - (((n1 / 2 : Nat) : Int).toNat)), .slice none 0 0]) (ys := [.slice A1 (((n1 / 2 : Nat) : Int).toNat) c1, .slice (if c1 = (((n1 / 2 : Nat) : Int).toNat) then A1 else A1.map (·.add ((((n1 / 2 : Nat) : Int).toNat) * 1))) (n1 - (((n1 / 2 : Nat) : Int).toNat)) (c1 - (((n1 / 2 : Nat) : Int).toNat)), .slice none 0 0]) Tryd.underlying38 Tryd.sizeOf22 Tryd.zeroValue22 rfl rfl rfl rfl rfl ⟨⟨_, rfl, rfl, rfl⟩, ⟨_, rfl, rfl, rfl⟩, ⟨_, rfl, rfl, rfl⟩, trivial⟩) (by rintro _ w32 ⟨rfl, hs32, hB32, hk32, hz32⟩ _; exact hk32.mono (fun _ _ h => h.elim)) ?_
            rintro _ w32 ⟨rfl, hs32, hB32, hk32, hz32⟩
            refine X.dE (i := 12) (by kernel_rfl) rfl (X.dwN rfl) (X.callE (Add_c (moreC (BitVec.ofNat 32 4294967295) xs) (xs.length : Int) (by omega) w1.heap.size (lo2 := 0) (hi2 := w.heap.size) (ls := [List.take (((n1 / 2 : Nat) : Int).toNat) x, List.drop (((n1 / 2 : Nat) : Int).toNat) x, []]) _ (hB0.keep (hk31.trans hk32)) hs32 ⟨⟨_, _, _, rfl, by omega, ((hs1.take (((n1 / 2 : Nat) : Int).toNat) (by omega)).keep ((hk.trans hk31).trans hk32))⟩, ⟨_, _, _, rfl, by omega, ((hs1.drop (((n1 / 2 : Nat) : Int).toNat) c1 (by omega) (by omega)).keep ((hk.trans hk31).trans hk32))⟩, ⟨_, _, _, rfl, Nat.le_refl _, Sl.nil _ _ _ _ _⟩, trivial⟩ (by omega) (by omega) (by omega) (by simp only [hs1l, List.flatten_cons, List.flatten_nil, List.length_append, List.length_take, List.length_drop, List.length_nil, List.append_nil]; omega) (hT.keep ((hk.trans hk31).trans hk32))) Tryd.call21 rfl rfl) (by rintro _ w33 ⟨rfl, hB33, hx33⟩ _; exact hx33.mono (fun k _ h => by (try simp only [] at *); omega)) ?_
            rintro _ w33 ⟨rfl, hB33, hx33⟩
            have hx33' := hx33.size
            refine X.dEnd (by kernel_rfl) ?_
            refine X.seq ?_
            refine X.region ?_
            refine X.opw X.wN rfl (X.move rfl) ?_
            refine X.opw X.wN rfl (X.move (v := .slice _ _ _) rfl) ?_
            refine X.opE X.wN rfl (X.litKF KR1_flat (K := KR1) (xs := [Operand.tmp 52]) (vs := [.slice A1 n1 c1]) (ys := [.slice A1 n1 c1]) Tryd.underlying38 Tryd.sizeOf22 Tryd.zeroValue22 rfl rfl rfl rfl rfl ⟨⟨_, rfl, rfl, rfl⟩, trivial⟩) ?_
            rintro _ w34 ⟨rfl, hs34, hB34, hk34, hz34⟩
            refine X.opE X.wN rfl (X.callE (AddN_c _ _) Tryd.call21 rfl rfl) ?_
            rintro _ w35 ⟨rfl, hk35⟩
            have hk35' := hk35.size
            refine X.opsEnd ?_
            refine X.seq ?_
            refine X.region ?_
            refine X.opw X.wN rfl (X.move rfl) ?_
            refine X.opw X.wN rfl (X.move (v := .slice _ _ _) rfl) ?_
            refine X.opE X.wN rfl (X.appE (K := KB) (S := fun k => w1.heap.size < k) KB_flat Tryd.underlying22 E8 rfl rfl (((hM0.keep (hk31.trans hk32)).ext hx33 (by intros; (try simp only []); omega) (by intros; (try simp only []); omega)).keep (hk34.trans hk35)) (hs1.keep (((((hk.trans hk31).trans hk32).step hx33 (by intros; (try simp only [] at *); omega)).trans hk34).trans hk35)) (by (try simp only [List.length_append, List.length_cons, List.length_nil, List.length_take, List.length_drop, List.length_map, List.length_range]); omega) (by intros; (try simp only [] at *); omega)) ?_
            rintro v36 w36 ⟨hM36, hx36⟩
            have hx36' := hx36.size
            refine X.opw X.wN rfl (X.assign rfl) ?_
            refine X.opsEnd ?_
            refine X.seq ?_
            refine X.region ?_
            refine X.opw X.wN rfl (X.move rfl) ?_
            refine X.opE X.wN rfl (X.callE (ASum_c _ _ _ _ ((hB33.keep (hk34.trans hk35)).ext hx36 (by intros; (try simp only []); omega))) Tryd.call22 rfl rfl) ?_
            rintro _ w37 ⟨rfl, hk37⟩
            have hk37' := hk37.size
            refine X.opw X.wN rfl (X.move rfl) ?_
            have q39 := (hM36.keep hk37).slF KB_flat 0 (fun _ _ => Nat.zero_le _)
            obtain ⟨A39, c39, rfl, hc39, hs39⟩ := q39
            refine X.opE X.wN rfl (X.callE (RSum_c _ hs39) Tryd.call14 rfl rfl) ?_
            rintro _ w38 ⟨rfl, hk38⟩
            have hk38' := hk38.size
            refine X.opP X.wN rfl rfl (X.neI rfl rfl) (fun h62 => ?_) (fun h62 => ?_)
            · exact (h62 (by rw [sumC, moreC_app]; simp)).elim
            · refine X.opw X.wN rfl (X.move (v := .bool false) rfl) ?_
              refine X.opw (X.wG rfl rfl rfl) rfl (X.move rfl) ?_
              refine X.opE (X.wG rfl rfl rfl) rfl (X.callE (ALen_c _ _ _ _ (((hB33.keep (hk34.trans hk35)).ext hx36 (by intros; (try simp only []); omega)).keep (hk37.trans hk38))) Tryd.call23 rfl rfl) ?_
              rintro _ w40 ⟨rfl, hk40⟩
              have hk40' := hk40.size
              refine X.opw (X.wG rfl rfl rfl) rfl (X.move rfl) ?_
              refine X.opw (X.wG rfl rfl rfl) rfl (X.lenSl Tryd.underlying22 rfl) ?_
              refine X.opP (X.wG rfl rfl rfl) rfl rfl (X.neI rfl rfl) (fun h68 => ?_) (fun h68 => ?_)
              · exact (h68 (by simp [List.length_append]; try omega)).elim
              · refine X.opw X.wN rfl (X.pickF (v := .bool false) rfl rfl) ?_
                refine X.opsEnd ?_
                refine X.condF rfl ?_
                refine X.skip ?_
                refine X.inBlock ?_
                refine X.region ?_
                refine X.opw X.wN rfl (X.move (v := .int .i64 _) rfl) ?_
                refine X.opw X.wN rfl (X.add rfl rfl (X.w_i64 (by omega))) ?_
                refine X.opw X.wN rfl (X.assign (v := .int .i64 _) rfl) ?_
                refine X.opsEnd ?_
                refine hback (i + 1, _, xs ++ x) _ _ ⟨rfl, rfl, rfl, rfl, rfl, trivial⟩ ⟨by dsimp only; omega, (add_3 _ _ _ _ _ _ (((hB33.keep (hk34.trans hk35)).ext hx36 (by intros; (try simp only []); omega)).keep ((hk37.trans hk38).trans hk40))), (Mine.mono (T := fun k => w1.heap.size < k) (hM36.keep ((hk37.trans hk38).trans hk40)) (fun k h1 h2 => by (try simp only [] at *); omega)), by rw [List.length_append]; dsimp only; omega, (((((((((hk.trans hk31).trans hk32).step hx33 (by intros; (try simp only [] at *); omega)).trans hk34).trans hk35).step hx36 (by intros; (try simp only [] at *); omega)).trans hk37).trans hk38).trans hk40)⟩ (by dsimp only; omega)
      · refine X.opw X.wN rfl (X.pickT (v := .bool false) rfl rfl) ?_
        refine X.opsEnd ?_
        refine X.condF rfl ?_
        refine X.exit rfl ?_
        refine X.seq ?_
        refine X.region ?_
        refine X.opw X.wN rfl (X.buildB (vs := []) (cs := #[.int .u32 0, .int .i64 0, .bool false]) rfl (by kernel_rfl)) ?_
        refine X.opE X.wN rfl (X.boxE rfl rfl) ?_
        rintro _ w41 ⟨rfl, hB41, hk41, hz41⟩
        refine X.opw X.wN rfl (X.assign rfl) ?_
        refine X.opsEnd ?_
        refine X.seq ?_
        refine X.region ?_
        refine X.opw X.wN rfl (X.move rfl) ?_
        refine X.opw X.wN rfl (X.move rfl) ?_
        have q43 := (hM0.keep hk41).slF KB_flat 0 (fun _ _ => Nat.zero_le _)
        obtain ⟨A43, c43, rfl, hc43, hs43⟩ := q43
        refine X.opE X.wN rfl (X.litKF KR1_flat (K := KR1) (xs := [Operand.tmp 73]) (vs := [.slice A43 xs.length c43]) (ys := [.slice A43 xs.length c43]) Tryd.underlying38 Tryd.sizeOf22 Tryd.zeroValue22 rfl rfl rfl rfl rfl ⟨⟨_, rfl, rfl, rfl⟩, trivial⟩) ?_
        rintro _ w42 ⟨rfl, hs42, hB42, hk42, hz42⟩
        refine X.opE X.wN rfl (X.callE (AddF_c (BitVec.ofNat 32 0) 0 _ _ _ (hB41.keep hk42)) Tryd.call21 rfl rfl) ?_
        rintro _ w44 ⟨rfl, hk44⟩
        have hk44' := hk44.size
        refine X.opsEnd ?_
        refine X.seq ?_
        refine X.region ?_
        refine X.opw X.wN rfl (X.move rfl) ?_
        refine X.opE X.wN rfl (X.callE (ASumN_c _) Tryd.call22 rfl rfl) ?_
        rintro _ w45 ⟨rfl, hk45⟩
        have hk45' := hk45.size
        refine X.opP X.wN rfl rfl (X.eqI rfl rfl) (fun h78 => ?_) (fun h78 => ?_)
        · refine X.opw X.wN rfl (X.move (v := .bool true) rfl) ?_
          refine X.opw (X.wG rfl rfl rfl) rfl (X.move rfl) ?_
          refine X.opE (X.wG rfl rfl rfl) rfl (X.callE (ALenN_c _) Tryd.call23 rfl rfl) ?_
          rintro _ w46 ⟨rfl, hk46⟩
          have hk46' := hk46.size
          refine X.opP (X.wG rfl rfl rfl) rfl rfl (X.eqI rfl rfl) (fun h82 => ?_) (fun h82 => ?_)
          · refine X.opw X.wN rfl (X.pickT (v := .bool true) rfl rfl) ?_
            refine X.opw X.wN rfl (X.move (v := .bool true) rfl) ?_
            refine X.opw (X.wG rfl rfl rfl) rfl (X.move rfl) ?_
            refine X.opE (X.wG rfl rfl rfl) rfl (X.callE (ASumF_c (BitVec.ofNat 32 0) 0 _ _ (hB41.keep (((hk42.trans hk44).trans hk45).trans hk46))) Tryd.call22 rfl rfl) ?_
            rintro _ w47 ⟨rfl, hk47⟩
            have hk47' := hk47.size
            refine X.opP (X.wG rfl rfl rfl) rfl rfl (X.eqI rfl rfl) (fun h87 => ?_) (fun h87 => ?_)
            · refine X.opw X.wN rfl (X.pickT (v := .bool true) rfl rfl) ?_
              refine X.opw X.wN rfl (X.move (v := .bool true) rfl) ?_
              refine X.opw (X.wG rfl rfl rfl) rfl (X.move rfl) ?_
              refine X.opE (X.wG rfl rfl rfl) rfl (X.callE (ALenF_c (BitVec.ofNat 32 0) 0 _ _ (hB41.keep ((((hk42.trans hk44).trans hk45).trans hk46).trans hk47))) Tryd.call23 rfl rfl) ?_
              rintro _ w48 ⟨rfl, hk48⟩
              have hk48' := hk48.size
              refine X.opw (X.wG rfl rfl rfl) rfl (X.eqI rfl rfl) ?_
              refine X.opw X.wN rfl (X.pickT (v := .bool _) rfl rfl) ?_
              refine X.opw X.wN rfl (X.assign (v := .bool _) rfl) ?_
              refine X.opsEnd ?_
              refine X.ret1 (v := (.bool _)) Tryd.func5 Tryd.results5 rfl ?_
              exact ⟨rfl, (((((((hk.trans hk41).trans hk42).trans hk44).trans hk45).trans hk46).trans hk47).trans hk48)⟩
            · exact absurd rfl h87
          · exact absurd rfl h82
        · exact absurd rfl h78
    · refine X.opw X.wN rfl (X.move (v := .bool false) rfl) ?_
      refine X.opS rfl rfl rfl rfl rfl ?_
      refine X.opS rfl rfl rfl rfl rfl ?_
      refine X.opw X.wN rfl (X.pickF (v := .bool false) rfl rfl) ?_
      refine X.opsEnd ?_
      refine X.condF rfl ?_
      refine X.exit rfl ?_
      refine X.seq ?_
      refine X.region ?_
      refine X.opw X.wN rfl (X.buildB (vs := []) (cs := #[.int .u32 0, .int .i64 0, .bool false]) rfl (by kernel_rfl)) ?_
      refine X.opE X.wN rfl (X.boxE rfl rfl) ?_
      rintro _ w49 ⟨rfl, hB49, hk49, hz49⟩
      refine X.opw X.wN rfl (X.assign rfl) ?_
      refine X.opsEnd ?_
      refine X.seq ?_
      refine X.region ?_
      refine X.opw X.wN rfl (X.move rfl) ?_
      refine X.opw X.wN rfl (X.move rfl) ?_
      have q51 := (hM0.keep hk49).slF KB_flat 0 (fun _ _ => Nat.zero_le _)
      obtain ⟨A51, c51, rfl, hc51, hs51⟩ := q51
      refine X.opE X.wN rfl (X.litKF KR1_flat (K := KR1) (xs := [Operand.tmp 73]) (vs := [.slice A51 xs.length c51]) (ys := [.slice A51 xs.length c51]) Tryd.underlying38 Tryd.sizeOf22 Tryd.zeroValue22 rfl rfl rfl rfl rfl ⟨⟨_, rfl, rfl, rfl⟩, trivial⟩) ?_
      rintro _ w50 ⟨rfl, hs50, hB50, hk50, hz50⟩
      refine X.opE X.wN rfl (X.callE (AddF_c (BitVec.ofNat 32 0) 0 _ _ _ (hB49.keep hk50)) Tryd.call21 rfl rfl) ?_
      rintro _ w52 ⟨rfl, hk52⟩
      have hk52' := hk52.size
      refine X.opsEnd ?_
      refine X.seq ?_
      refine X.region ?_
      refine X.opw X.wN rfl (X.move rfl) ?_
      refine X.opE X.wN rfl (X.callE (ASumN_c _) Tryd.call22 rfl rfl) ?_
      rintro _ w53 ⟨rfl, hk53⟩
      have hk53' := hk53.size
      refine X.opP X.wN rfl rfl (X.eqI rfl rfl) (fun h78 => ?_) (fun h78 => ?_)
      · refine X.opw X.wN rfl (X.move (v := .bool true) rfl) ?_
        refine X.opw (X.wG rfl rfl rfl) rfl (X.move rfl) ?_
        refine X.opE (X.wG rfl rfl rfl) rfl (X.callE (ALenN_c _) Tryd.call23 rfl rfl) ?_
        rintro _ w54 ⟨rfl, hk54⟩
        have hk54' := hk54.size
        refine X.opP (X.wG rfl rfl rfl) rfl rfl (X.eqI rfl rfl) (fun h82 => ?_) (fun h82 => ?_)
        · refine X.opw X.wN rfl (X.pickT (v := .bool true) rfl rfl) ?_
          refine X.opw X.wN rfl (X.move (v := .bool true) rfl) ?_
          refine X.opw (X.wG rfl rfl rfl) rfl (X.move rfl) ?_
          refine X.opE (X.wG rfl rfl rfl) rfl (X.callE (ASumF_c (BitVec.ofNat 32 0) 0 _ _ (hB49.keep (((hk50.trans hk52).trans hk53).trans hk54))) Tryd.call22 rfl rfl) ?_
          rintro _ w55 ⟨rfl, hk55⟩
          have hk55' := hk55.size
          refine X.opP (X.wG rfl rfl rfl) rfl rfl (X.eqI rfl rfl) (fun h87 => ?_) (fun h87 => ?_)
          · refine X.opw X.wN rfl (X.pickT (v := .bool true) rfl rfl) ?_
            refine X.opw X.wN rfl (X.move (v := .bool true) rfl) ?_
            refine X.opw (X.wG rfl rfl rfl) rfl (X.move rfl) ?_
            refine X.opE (X.wG rfl rfl rfl) rfl (X.callE (ALenF_c (BitVec.ofNat 32 0) 0 _ _ (hB49.keep ((((hk50.trans hk52).trans hk53).trans hk54).trans hk55))) Tryd.call23 rfl rfl) ?_
            rintro _ w56 ⟨rfl, hk56⟩
            have hk56' := hk56.size
            refine X.opw (X.wG rfl rfl rfl) rfl (X.eqI rfl rfl) ?_
            refine X.opw X.wN rfl (X.pickT (v := .bool _) rfl rfl) ?_
            refine X.opw X.wN rfl (X.assign (v := .bool _) rfl) ?_
            refine X.opsEnd ?_
            refine X.ret1 (v := (.bool _)) Tryd.func5 Tryd.results5 rfl ?_
            exact ⟨rfl, (((((((hk.trans hk49).trans hk50).trans hk52).trans hk53).trans hk54).trans hk55).trans hk56)⟩
          · exact absurd rfl h87
        · exact absurd rfl h82
      · exact absurd rfl h78
end Go.Proofs.YtleaidgngkfjbaaDoor
