/- The reference's own takes: numbers, ints, rows. -/
import Derived.Test.YtaclpphhidlgpaaPackMB
namespace Go.Proofs.Ytaclpphhidlgpaa
open Go Go.Proofs.Ytaclpphhidlgpaa.X
set_option linter.unusedVariables false
set_option linter.unusedSimpArgs false

theorem mul_n (a b : Nat) (h : a * b < 18446744073709551616) : IntKind.u64.wrap (((a : Nat) : Int) * ((b : Nat) : Int)) = ((a * b : Nat) : Int) := by
  rw [← Int.natCast_mul]; exact w_u64 (by omega)
theorem add_n (a b : Nat) (h : a + b < 18446744073709551616) : IntKind.u64.wrap (((a : Nat) : Int) + ((b : Nat) : Int)) = ((a + b : Nat) : Int) := by
  rw [← Int.natCast_add]; exact w_u64 (by omega)
-- f32 "pedigree/pedigreeref03.TakeNum" params [25] results [33, 3, 3] -> [(ResultVar.tmp 2), (ResultVar.tmp 3
set_option maxHeartbeats 4000000 in
set_option maxRecDepth 100000 in
theorem RTakeNum_c {lo hi : Nat} {A : Option Addr} {n c : Nat} {l : List UInt8} (w : World) (hs : Sl KB lo hi w A n l) (hnc : n ≤ c) (hn : n ≤ 1000000) : Ret Try.prog 32 #[.slice A n c] w fun r w' => r = .tuple #[.int .u64 ((told (pNum 0 0 l) 0 : Nat) : Int), .int .i64 (cnt (pNum 0 0 l) n), .int .i64 (code (pNum 0 0 l))] ∧ Keep w w' := by
  have hl := hs.len
  refine X.enter Try.func32 rfl Try.ntmps32 rfl ?_
  refine X.seq ?_
  refine X.region ?_
  refine X.opw X.wN rfl (X.assign rfl) ?_
  refine X.opw X.wN rfl (X.assign rfl) ?_
  refine X.opw X.wN rfl (X.assign rfl) ?_
  refine X.opsEnd ?_
  refine X.seq ?_
  refine X.region ?_
  refine X.opw X.wN rfl (X.assign rfl) ?_
  refine X.opw X.wN rfl (X.assign rfl) ?_
  refine X.opsEnd ?_
  refine X.seq ?_
  refine X.seq ?_
  refine X.region ?_
  refine X.opw X.wN rfl (X.assign rfl) ?_
  refine X.opsEnd ?_
  refine X.block ?_
  -- LOOP live: 0=b, 5=x*, 6=scale*, 7=i*
  refine X.loopL (σ := Nat × Nat) (fun s => [(0, .slice A n c), (5, .int .u64 ((s.2 : Nat) : Int)), (6, .int .u64 ((128 ^ s.1 : Nat) : Int)), (7, .int .i64 (s.1 : Int))]) (fun s w' => s.1 ≤ n ∧ s.1 ≤ 9 ∧ s.2 < 128 ^ s.1 ∧ pNum s.1 s.2 (l.drop s.1) = pNum 0 0 l ∧ Keep w w') (fun s => n - s.1) (0, 0) ⟨rfl, rfl, rfl, rfl, trivial⟩ ⟨by simp, by simp, by simp, by simp, (Keep.refl _)⟩ ?_
  rintro ⟨i, acc⟩ b wl ⟨hin, hi0, ha, hp, hk⟩ hback
  simp only at hin hi0 ha hp
  have hk' := hk.size
  refine X.seq ?_
  refine X.seq ?_
  refine X.region ?_
  refine X.opw X.wN rfl (X.move (v := .int .i64 _) rfl) ?_
  refine X.opw X.wN rfl (X.move (v := .slice _ _ _) rfl) ?_
  refine X.opw X.wN rfl (X.lenSl Try.underlying25 rfl) ?_
  refine X.opP X.wN rfl rfl (X.lss rfl rfl) (fun h11 => ?_) (fun h11 => ?_)
  · obtain ⟨y, hx⟩ := getN i hl h11
    have hd := drop_at hx
    have huy := y.toNat_lt
    rw [hd] at hp
    refine X.opw X.wN rfl (X.move (v := .bool true) rfl) ?_
    refine X.opw (X.wG rfl rfl rfl) rfl (X.move (v := .int .i64 _) rfl) ?_
    refine X.opP (X.wG rfl rfl rfl) rfl rfl (X.lss rfl rfl) (fun h14 => ?_) (fun h14 => ?_)
    · refine X.opw X.wN rfl (X.pickT (v := .bool true) rfl rfl) ?_
      refine X.opsEnd ?_
      refine X.condT rfl ?_
      refine X.skip ?_
      refine X.seq ?_
      refine X.block ?_
      refine X.seq ?_
      refine X.seq ?_
      refine X.region ?_
      refine X.opw X.wN rfl (X.move (v := .int .i64 _) rfl) ?_
      refine X.opP X.wN rfl rfl (X.eqI rfl rfl) (fun h19 => ?_) (fun h19 => ?_)
      · refine X.opw X.wN rfl (X.move (v := .bool true) rfl) ?_
        refine X.opw (X.wG rfl rfl rfl) rfl (X.move (v := .slice _ _ _) rfl) ?_
        refine X.opw (X.wG rfl rfl rfl) rfl (X.move (v := .int .i64 _) rfl) ?_
        refine X.opw (X.wG rfl rfl rfl) rfl (X.idxS (hs.keep hk) Try.underlying25 Try.sizeOf5 rfl rfl ⟨by omega, by omega⟩) ?_
        refine X.opw (X.wG rfl rfl rfl) rfl (X.loadS Try.isAgg5 (hs.keep hk) hx rfl (fun _ h => by rw [h.1]; rfl)) ?_
        refine X.opP (X.wG rfl rfl rfl) rfl rfl (X.gtr rfl rfl) (fun h25 => ?_) (fun h25 => ?_)
        · refine X.opw X.wN rfl (X.pickT (v := .bool true) rfl rfl) ?_
          refine X.opw X.wN rfl (X.move (v := .bool true) rfl) ?_
          refine X.opS rfl rfl rfl rfl rfl ?_
          refine X.opS rfl rfl rfl rfl rfl ?_
          refine X.opS rfl rfl rfl rfl rfl ?_
          refine X.opU rfl rfl rfl rfl ?_
          refine X.opU rfl rfl rfl rfl ?_
          refine X.opU rfl rfl rfl rfl ?_
          refine X.opU rfl rfl rfl rfl ?_
          refine X.opU rfl rfl rfl rfl ?_
          refine X.opS rfl rfl rfl rfl rfl ?_
          refine X.opw X.wN rfl (X.pickT (v := .bool true) rfl rfl) ?_
          refine X.opsEnd ?_
          refine X.condT rfl ?_
          refine X.seq ?_
          refine X.region ?_
          refine X.opw X.wN rfl (X.assign rfl) ?_
          refine X.opw X.wN rfl (X.assign rfl) ?_
          refine X.opw X.wN rfl (X.assign rfl) ?_
          refine X.opsEnd ?_
          refine X.ret3 (v1 := (.int .u64 _)) (v2 := (.int .i64 _)) (v3 := (.int .i64 _)) Try.func32 Try.results32 rfl rfl rfl ?_
          first
          | exact ⟨by rw [← hp]; rfl, hk⟩
          | exact ⟨by rw [← hp, pNum, if_pos (by omega)]; rfl, hk⟩
          | exact ⟨by rw [← hp, pNum, if_neg (by omega), if_pos (by omega)]; simp only [told, cnt, code, Option.isSome_some, if_true]; rw [List.length_drop, show ((n : Nat) : Int) - ((l.length - (i + 1) : Nat) : Int) = (i : Int) + 1 by omega], hk⟩
        · refine X.opw X.wN rfl (X.pickT (v := .bool false) rfl rfl) ?_
          refine X.opw X.wN rfl (X.move (v := .bool false) rfl) ?_
          refine X.opw (X.wG rfl rfl rfl) rfl (X.move (v := .int .i64 _) rfl) ?_
          refine X.opP (X.wG rfl rfl rfl) rfl rfl (X.gtr rfl rfl) (fun h29 => ?_) (fun h29 => ?_)
          · refine X.opw (X.wG rfl rfl rfl) rfl (X.move (v := .bool true) rfl) ?_
            refine X.opw (X.wG rfl rfl rfl) rfl (X.move (v := .slice _ _ _) rfl) ?_
            refine X.opw (X.wG rfl rfl rfl) rfl (X.move (v := .int .i64 _) rfl) ?_
            refine X.opw (X.wG rfl rfl rfl) rfl (X.idxS (hs.keep hk) Try.underlying25 Try.sizeOf5 rfl rfl ⟨by omega, by omega⟩) ?_
            refine X.opw (X.wG rfl rfl rfl) rfl (X.loadS Try.isAgg5 (hs.keep hk) hx rfl (fun _ h => by rw [h.1]; rfl)) ?_
            refine X.opP (X.wG rfl rfl rfl) rfl rfl (X.eqI rfl rfl) (fun h35 => ?_) (fun h35 => ?_)
            · refine X.opw (X.wG rfl rfl rfl) rfl (X.pickT (v := .bool true) rfl rfl) ?_
              refine X.opw X.wN rfl (X.pickF (v := .bool true) rfl rfl) ?_
              refine X.opsEnd ?_
              refine X.condT rfl ?_
              refine X.seq ?_
              refine X.region ?_
              refine X.opw X.wN rfl (X.assign rfl) ?_
              refine X.opw X.wN rfl (X.assign rfl) ?_
              refine X.opw X.wN rfl (X.assign rfl) ?_
              refine X.opsEnd ?_
              refine X.ret3 (v1 := (.int .u64 _)) (v2 := (.int .i64 _)) (v3 := (.int .i64 _)) Try.func32 Try.results32 rfl rfl rfl ?_
              first
              | exact ⟨by rw [← hp]; rfl, hk⟩
              | exact ⟨by rw [← hp, pNum, if_pos (by omega)]; rfl, hk⟩
              | exact ⟨by rw [← hp, pNum, if_neg (by omega), if_pos (by omega)]; simp only [told, cnt, code, Option.isSome_some, if_true]; rw [List.length_drop, show ((n : Nat) : Int) - ((l.length - (i + 1) : Nat) : Int) = (i : Int) + 1 by omega], hk⟩
            · refine X.opw (X.wG rfl rfl rfl) rfl (X.pickT (v := .bool false) rfl rfl) ?_
              refine X.opw X.wN rfl (X.pickF (v := .bool false) rfl rfl) ?_
              refine X.opsEnd ?_
              refine X.condF rfl ?_
              refine X.skip ?_
              refine X.seq ?_
              refine X.region ?_
              refine X.opw X.wN rfl (X.move (v := .int .u64 _) rfl) ?_
              refine X.opw X.wN rfl (X.move (v := .slice _ _ _) rfl) ?_
              refine X.opw X.wN rfl (X.move (v := .int .i64 _) rfl) ?_
              refine X.opw X.wN rfl (X.idxS (hs.keep hk) Try.underlying25 Try.sizeOf5 rfl rfl ⟨by omega, by omega⟩) ?_
              refine X.opw X.wN rfl (X.loadS Try.isAgg5 (hs.keep hk) hx rfl (fun _ h => by rw [h.1]; rfl)) ?_
              refine X.opw X.wN rfl (X.rem (c := ((y.toNat % 128 : Nat) : Int)) rfl rfl (by decide) rfl) ?_
              refine X.opw X.wN rfl (X.cvI Try.underlying5 Try.underlying33 rfl (X.w_u64 (by omega))) ?_
              refine X.opw X.wN rfl (X.move (v := .int .u64 _) rfl) ?_
              refine X.opw X.wN rfl (X.mul (c := ((y.toNat % 128 * 128 ^ i : Nat) : Int)) rfl rfl (mul_n _ _ (Nat.lt_of_le_of_lt (Nat.le_add_left _ acc) (num_bound y hi0 ha (by omega)).1))) ?_
              refine X.opw X.wN rfl (X.add (c := ((acc + y.toNat % 128 * 128 ^ i : Nat) : Int)) rfl rfl (add_n _ _ (num_bound y hi0 ha (by omega)).1)) ?_
              refine X.opw X.wN rfl (X.assign (v := .int .u64 _) rfl) ?_
              refine X.opsEnd ?_
              refine X.seq ?_
              refine X.seq ?_
              refine X.region ?_
              refine X.opw X.wN rfl (X.move (v := .slice _ _ _) rfl) ?_
              refine X.opw X.wN rfl (X.move (v := .int .i64 _) rfl) ?_
              refine X.opw X.wN rfl (X.idxS (hs.keep hk) Try.underlying25 Try.sizeOf5 rfl rfl ⟨by omega, by omega⟩) ?_
              refine X.opw X.wN rfl (X.loadS Try.isAgg5 (hs.keep hk) hx rfl (fun _ h => by rw [h.1]; rfl)) ?_
              refine X.opP X.wN rfl rfl (X.lss rfl rfl) (fun h52 => ?_) (fun h52 => ?_)
              · refine X.opsEnd ?_
                refine X.condT rfl ?_
                refine X.seq ?_
                refine X.region ?_
                refine X.opw X.wN rfl (X.move (v := .int .u64 _) rfl) ?_
                refine X.opw X.wN rfl (X.move (v := .int .i64 _) rfl) ?_
                refine X.opw X.wN rfl (X.add rfl rfl (X.w_i64 (by omega))) ?_
                refine X.opw X.wN rfl (X.assign (v := .int .u64 _) rfl) ?_
                refine X.opw X.wN rfl (X.assign (v := .int .i64 _) rfl) ?_
                refine X.opw X.wN rfl (X.assign rfl) ?_
                refine X.opsEnd ?_
                refine X.ret3 (v1 := (.int .u64 _)) (v2 := (.int .i64 _)) (v3 := (.int .i64 _)) Try.func32 Try.results32 rfl rfl rfl ?_
                first
                | exact ⟨by rw [← hp]; rfl, hk⟩
                | exact ⟨by rw [← hp, pNum, if_pos (by omega)]; rfl, hk⟩
                | exact ⟨by rw [← hp, pNum, if_neg (by omega), if_pos (by omega)]; simp only [told, cnt, code, Option.isSome_some, if_true]; rw [List.length_drop, show ((n : Nat) : Int) - ((l.length - (i + 1) : Nat) : Int) = (i : Int) + 1 by omega], hk⟩
              · refine X.opsEnd ?_
                refine X.condF rfl ?_
                refine X.skip ?_
                refine X.region ?_
                refine X.opw X.wN rfl (X.move (v := .int .u64 _) rfl) ?_
                refine X.opw X.wN rfl (X.mul (c := ((128 ^ (i + 1) : Nat) : Int)) rfl rfl (by have h8 := (num_bound y hi0 ha (by omega)).2.2 (by omega); have hp2 := pow128 i hi0; rw [← hp2.1]; exact mul_n (128 ^ i) 128 (by have := hp2.2.2.1 h8; omega))) ?_
                refine X.opw X.wN rfl (X.assign (v := .int .u64 _) rfl) ?_
                refine X.opsEnd ?_
                refine X.inBlock ?_
                refine X.region ?_
                refine X.opw X.wN rfl (X.move (v := .int .i64 _) rfl) ?_
                refine X.opw X.wN rfl (X.add rfl rfl (X.w_i64 (by omega))) ?_
                refine X.opw X.wN rfl (X.assign (v := .int .i64 _) rfl) ?_
                refine X.opsEnd ?_
                refine hback (i + 1, acc + y.toNat % 128 * 128 ^ i) _ _ ⟨rfl, rfl, rfl, rfl, trivial⟩ ⟨by dsimp only; omega, by have := (num_bound y hi0 ha (by omega)).2.2 (by omega); dsimp only; omega, (num_bound y hi0 ha (by omega)).2.1, by dsimp only; rw [← hp, pNum, if_neg (by omega), if_neg (by omega)], hk⟩ (by dsimp only; omega)
          · refine X.opw (X.wG rfl rfl rfl) rfl (X.move (v := .bool false) rfl) ?_
            refine X.opS rfl rfl rfl rfl rfl ?_
            refine X.opS rfl rfl rfl rfl rfl ?_
            refine X.opS rfl rfl rfl rfl rfl ?_
            refine X.opS rfl rfl rfl rfl rfl ?_
            refine X.opS rfl rfl rfl rfl rfl ?_
            refine X.opw (X.wG rfl rfl rfl) rfl (X.pickF (v := .bool false) rfl rfl) ?_
            refine X.opw X.wN rfl (X.pickF (v := .bool false) rfl rfl) ?_
            refine X.opsEnd ?_
            refine X.condF rfl ?_
            refine X.skip ?_
            refine X.seq ?_
            refine X.region ?_
            refine X.opw X.wN rfl (X.move (v := .int .u64 _) rfl) ?_
            refine X.opw X.wN rfl (X.move (v := .slice _ _ _) rfl) ?_
            refine X.opw X.wN rfl (X.move (v := .int .i64 _) rfl) ?_
            refine X.opw X.wN rfl (X.idxS (hs.keep hk) Try.underlying25 Try.sizeOf5 rfl rfl ⟨by omega, by omega⟩) ?_
            refine X.opw X.wN rfl (X.loadS Try.isAgg5 (hs.keep hk) hx rfl (fun _ h => by rw [h.1]; rfl)) ?_
            refine X.opw X.wN rfl (X.rem (c := ((y.toNat % 128 : Nat) : Int)) rfl rfl (by decide) rfl) ?_
            refine X.opw X.wN rfl (X.cvI Try.underlying5 Try.underlying33 rfl (X.w_u64 (by omega))) ?_
            refine X.opw X.wN rfl (X.move (v := .int .u64 _) rfl) ?_
            refine X.opw X.wN rfl (X.mul (c := ((y.toNat % 128 * 128 ^ i : Nat) : Int)) rfl rfl (mul_n _ _ (Nat.lt_of_le_of_lt (Nat.le_add_left _ acc) (num_bound y hi0 ha (by omega)).1))) ?_
            refine X.opw X.wN rfl (X.add (c := ((acc + y.toNat % 128 * 128 ^ i : Nat) : Int)) rfl rfl (add_n _ _ (num_bound y hi0 ha (by omega)).1)) ?_
            refine X.opw X.wN rfl (X.assign (v := .int .u64 _) rfl) ?_
            refine X.opsEnd ?_
            refine X.seq ?_
            refine X.seq ?_
            refine X.region ?_
            refine X.opw X.wN rfl (X.move (v := .slice _ _ _) rfl) ?_
            refine X.opw X.wN rfl (X.move (v := .int .i64 _) rfl) ?_
            refine X.opw X.wN rfl (X.idxS (hs.keep hk) Try.underlying25 Try.sizeOf5 rfl rfl ⟨by omega, by omega⟩) ?_
            refine X.opw X.wN rfl (X.loadS Try.isAgg5 (hs.keep hk) hx rfl (fun _ h => by rw [h.1]; rfl)) ?_
            refine X.opP X.wN rfl rfl (X.lss rfl rfl) (fun h52 => ?_) (fun h52 => ?_)
            · refine X.opsEnd ?_
              refine X.condT rfl ?_
              refine X.seq ?_
              refine X.region ?_
              refine X.opw X.wN rfl (X.move (v := .int .u64 _) rfl) ?_
              refine X.opw X.wN rfl (X.move (v := .int .i64 _) rfl) ?_
              refine X.opw X.wN rfl (X.add rfl rfl (X.w_i64 (by omega))) ?_
              refine X.opw X.wN rfl (X.assign (v := .int .u64 _) rfl) ?_
              refine X.opw X.wN rfl (X.assign (v := .int .i64 _) rfl) ?_
              refine X.opw X.wN rfl (X.assign rfl) ?_
              refine X.opsEnd ?_
              refine X.ret3 (v1 := (.int .u64 _)) (v2 := (.int .i64 _)) (v3 := (.int .i64 _)) Try.func32 Try.results32 rfl rfl rfl ?_
              first
              | exact ⟨by rw [← hp]; rfl, hk⟩
              | exact ⟨by rw [← hp, pNum, if_pos (by omega)]; rfl, hk⟩
              | exact ⟨by rw [← hp, pNum, if_neg (by omega), if_pos (by omega)]; simp only [told, cnt, code, Option.isSome_some, if_true]; rw [List.length_drop, show ((n : Nat) : Int) - ((l.length - (i + 1) : Nat) : Int) = (i : Int) + 1 by omega], hk⟩
            · refine X.opsEnd ?_
              refine X.condF rfl ?_
              refine X.skip ?_
              refine X.region ?_
              refine X.opw X.wN rfl (X.move (v := .int .u64 _) rfl) ?_
              refine X.opw X.wN rfl (X.mul (c := ((128 ^ (i + 1) : Nat) : Int)) rfl rfl (by have h8 := (num_bound y hi0 ha (by omega)).2.2 (by omega); have hp2 := pow128 i hi0; rw [← hp2.1]; exact mul_n (128 ^ i) 128 (by have := hp2.2.2.1 h8; omega))) ?_
              refine X.opw X.wN rfl (X.assign (v := .int .u64 _) rfl) ?_
              refine X.opsEnd ?_
              refine X.inBlock ?_
              refine X.region ?_
              refine X.opw X.wN rfl (X.move (v := .int .i64 _) rfl) ?_
              refine X.opw X.wN rfl (X.add rfl rfl (X.w_i64 (by omega))) ?_
              refine X.opw X.wN rfl (X.assign (v := .int .i64 _) rfl) ?_
              refine X.opsEnd ?_
              refine hback (i + 1, acc + y.toNat % 128 * 128 ^ i) _ _ ⟨rfl, rfl, rfl, rfl, trivial⟩ ⟨by dsimp only; omega, by have := (num_bound y hi0 ha (by omega)).2.2 (by omega); dsimp only; omega, (num_bound y hi0 ha (by omega)).2.1, by dsimp only; rw [← hp, pNum, if_neg (by omega), if_neg (by omega)], hk⟩ (by dsimp only; omega)
      · refine X.opw X.wN rfl (X.move (v := .bool false) rfl) ?_
        refine X.opS rfl rfl rfl rfl rfl ?_
        refine X.opS rfl rfl rfl rfl rfl ?_
        refine X.opS rfl rfl rfl rfl rfl ?_
        refine X.opS rfl rfl rfl rfl rfl ?_
        refine X.opS rfl rfl rfl rfl rfl ?_
        refine X.opw X.wN rfl (X.pickF (v := .bool false) rfl rfl) ?_
        refine X.opw X.wN rfl (X.move (v := .bool false) rfl) ?_
        refine X.opw (X.wG rfl rfl rfl) rfl (X.move (v := .int .i64 _) rfl) ?_
        refine X.opP (X.wG rfl rfl rfl) rfl rfl (X.gtr rfl rfl) (fun h29 => ?_) (fun h29 => ?_)
        · refine X.opw (X.wG rfl rfl rfl) rfl (X.move (v := .bool true) rfl) ?_
          refine X.opw (X.wG rfl rfl rfl) rfl (X.move (v := .slice _ _ _) rfl) ?_
          refine X.opw (X.wG rfl rfl rfl) rfl (X.move (v := .int .i64 _) rfl) ?_
          refine X.opw (X.wG rfl rfl rfl) rfl (X.idxS (hs.keep hk) Try.underlying25 Try.sizeOf5 rfl rfl ⟨by omega, by omega⟩) ?_
          refine X.opw (X.wG rfl rfl rfl) rfl (X.loadS Try.isAgg5 (hs.keep hk) hx rfl (fun _ h => by rw [h.1]; rfl)) ?_
          refine X.opP (X.wG rfl rfl rfl) rfl rfl (X.eqI rfl rfl) (fun h35 => ?_) (fun h35 => ?_)
          · refine X.opw (X.wG rfl rfl rfl) rfl (X.pickT (v := .bool true) rfl rfl) ?_
            refine X.opw X.wN rfl (X.pickF (v := .bool true) rfl rfl) ?_
            refine X.opsEnd ?_
            refine X.condT rfl ?_
            refine X.seq ?_
            refine X.region ?_
            refine X.opw X.wN rfl (X.assign rfl) ?_
            refine X.opw X.wN rfl (X.assign rfl) ?_
            refine X.opw X.wN rfl (X.assign rfl) ?_
            refine X.opsEnd ?_
            refine X.ret3 (v1 := (.int .u64 _)) (v2 := (.int .i64 _)) (v3 := (.int .i64 _)) Try.func32 Try.results32 rfl rfl rfl ?_
            first
            | exact ⟨by rw [← hp]; rfl, hk⟩
            | exact ⟨by rw [← hp, pNum, if_pos (by omega)]; rfl, hk⟩
            | exact ⟨by rw [← hp, pNum, if_neg (by omega), if_pos (by omega)]; simp only [told, cnt, code, Option.isSome_some, if_true]; rw [List.length_drop, show ((n : Nat) : Int) - ((l.length - (i + 1) : Nat) : Int) = (i : Int) + 1 by omega], hk⟩
          · refine X.opw (X.wG rfl rfl rfl) rfl (X.pickT (v := .bool false) rfl rfl) ?_
            refine X.opw X.wN rfl (X.pickF (v := .bool false) rfl rfl) ?_
            refine X.opsEnd ?_
            refine X.condF rfl ?_
            refine X.skip ?_
            refine X.seq ?_
            refine X.region ?_
            refine X.opw X.wN rfl (X.move (v := .int .u64 _) rfl) ?_
            refine X.opw X.wN rfl (X.move (v := .slice _ _ _) rfl) ?_
            refine X.opw X.wN rfl (X.move (v := .int .i64 _) rfl) ?_
            refine X.opw X.wN rfl (X.idxS (hs.keep hk) Try.underlying25 Try.sizeOf5 rfl rfl ⟨by omega, by omega⟩) ?_
            refine X.opw X.wN rfl (X.loadS Try.isAgg5 (hs.keep hk) hx rfl (fun _ h => by rw [h.1]; rfl)) ?_
            refine X.opw X.wN rfl (X.rem (c := ((y.toNat % 128 : Nat) : Int)) rfl rfl (by decide) rfl) ?_
            refine X.opw X.wN rfl (X.cvI Try.underlying5 Try.underlying33 rfl (X.w_u64 (by omega))) ?_
            refine X.opw X.wN rfl (X.move (v := .int .u64 _) rfl) ?_
            refine X.opw X.wN rfl (X.mul (c := ((y.toNat % 128 * 128 ^ i : Nat) : Int)) rfl rfl (mul_n _ _ (Nat.lt_of_le_of_lt (Nat.le_add_left _ acc) (num_bound y hi0 ha (by omega)).1))) ?_
            refine X.opw X.wN rfl (X.add (c := ((acc + y.toNat % 128 * 128 ^ i : Nat) : Int)) rfl rfl (add_n _ _ (num_bound y hi0 ha (by omega)).1)) ?_
            refine X.opw X.wN rfl (X.assign (v := .int .u64 _) rfl) ?_
            refine X.opsEnd ?_
            refine X.seq ?_
            refine X.seq ?_
            refine X.region ?_
            refine X.opw X.wN rfl (X.move (v := .slice _ _ _) rfl) ?_
            refine X.opw X.wN rfl (X.move (v := .int .i64 _) rfl) ?_
            refine X.opw X.wN rfl (X.idxS (hs.keep hk) Try.underlying25 Try.sizeOf5 rfl rfl ⟨by omega, by omega⟩) ?_
            refine X.opw X.wN rfl (X.loadS Try.isAgg5 (hs.keep hk) hx rfl (fun _ h => by rw [h.1]; rfl)) ?_
            refine X.opP X.wN rfl rfl (X.lss rfl rfl) (fun h52 => ?_) (fun h52 => ?_)
            · refine X.opsEnd ?_
              refine X.condT rfl ?_
              refine X.seq ?_
              refine X.region ?_
              refine X.opw X.wN rfl (X.move (v := .int .u64 _) rfl) ?_
              refine X.opw X.wN rfl (X.move (v := .int .i64 _) rfl) ?_
              refine X.opw X.wN rfl (X.add rfl rfl (X.w_i64 (by omega))) ?_
              refine X.opw X.wN rfl (X.assign (v := .int .u64 _) rfl) ?_
              refine X.opw X.wN rfl (X.assign (v := .int .i64 _) rfl) ?_
              refine X.opw X.wN rfl (X.assign rfl) ?_
              refine X.opsEnd ?_
              refine X.ret3 (v1 := (.int .u64 _)) (v2 := (.int .i64 _)) (v3 := (.int .i64 _)) Try.func32 Try.results32 rfl rfl rfl ?_
              first
              | exact ⟨by rw [← hp]; rfl, hk⟩
              | exact ⟨by rw [← hp, pNum, if_pos (by omega)]; rfl, hk⟩
              | exact ⟨by rw [← hp, pNum, if_neg (by omega), if_pos (by omega)]; simp only [told, cnt, code, Option.isSome_some, if_true]; rw [List.length_drop, show ((n : Nat) : Int) - ((l.length - (i + 1) : Nat) : Int) = (i : Int) + 1 by omega], hk⟩
            · refine X.opsEnd ?_
              refine X.condF rfl ?_
              refine X.skip ?_
              refine X.region ?_
              refine X.opw X.wN rfl (X.move (v := .int .u64 _) rfl) ?_
              refine X.opw X.wN rfl (X.mul (c := ((128 ^ (i + 1) : Nat) : Int)) rfl rfl (by have h8 := (num_bound y hi0 ha (by omega)).2.2 (by omega); have hp2 := pow128 i hi0; rw [← hp2.1]; exact mul_n (128 ^ i) 128 (by have := hp2.2.2.1 h8; omega))) ?_
              refine X.opw X.wN rfl (X.assign (v := .int .u64 _) rfl) ?_
              refine X.opsEnd ?_
              refine X.inBlock ?_
              refine X.region ?_
              refine X.opw X.wN rfl (X.move (v := .int .i64 _) rfl) ?_
              refine X.opw X.wN rfl (X.add rfl rfl (X.w_i64 (by omega))) ?_
              refine X.opw X.wN rfl (X.assign (v := .int .i64 _) rfl) ?_
              refine X.opsEnd ?_
              refine hback (i + 1, acc + y.toNat % 128 * 128 ^ i) _ _ ⟨rfl, rfl, rfl, rfl, trivial⟩ ⟨by dsimp only; omega, by have := (num_bound y hi0 ha (by omega)).2.2 (by omega); dsimp only; omega, (num_bound y hi0 ha (by omega)).2.1, by dsimp only; rw [← hp, pNum, if_neg (by omega), if_neg (by omega)], hk⟩ (by dsimp only; omega)
        · refine X.opw (X.wG rfl rfl rfl) rfl (X.move (v := .bool false) rfl) ?_
          refine X.opS rfl rfl rfl rfl rfl ?_
          refine X.opS rfl rfl rfl rfl rfl ?_
          refine X.opS rfl rfl rfl rfl rfl ?_
          refine X.opS rfl rfl rfl rfl rfl ?_
          refine X.opS rfl rfl rfl rfl rfl ?_
          refine X.opw (X.wG rfl rfl rfl) rfl (X.pickF (v := .bool false) rfl rfl) ?_
          refine X.opw X.wN rfl (X.pickF (v := .bool false) rfl rfl) ?_
          refine X.opsEnd ?_
          refine X.condF rfl ?_
          refine X.skip ?_
          refine X.seq ?_
          refine X.region ?_
          refine X.opw X.wN rfl (X.move (v := .int .u64 _) rfl) ?_
          refine X.opw X.wN rfl (X.move (v := .slice _ _ _) rfl) ?_
          refine X.opw X.wN rfl (X.move (v := .int .i64 _) rfl) ?_
          refine X.opw X.wN rfl (X.idxS (hs.keep hk) Try.underlying25 Try.sizeOf5 rfl rfl ⟨by omega, by omega⟩) ?_
          refine X.opw X.wN rfl (X.loadS Try.isAgg5 (hs.keep hk) hx rfl (fun _ h => by rw [h.1]; rfl)) ?_
          refine X.opw X.wN rfl (X.rem (c := ((y.toNat % 128 : Nat) : Int)) rfl rfl (by decide) rfl) ?_
          refine X.opw X.wN rfl (X.cvI Try.underlying5 Try.underlying33 rfl (X.w_u64 (by omega))) ?_
          refine X.opw X.wN rfl (X.move (v := .int .u64 _) rfl) ?_
          refine X.opw X.wN rfl (X.mul (c := ((y.toNat % 128 * 128 ^ i : Nat) : Int)) rfl rfl (mul_n _ _ (Nat.lt_of_le_of_lt (Nat.le_add_left _ acc) (num_bound y hi0 ha (by omega)).1))) ?_
          refine X.opw X.wN rfl (X.add (c := ((acc + y.toNat % 128 * 128 ^ i : Nat) : Int)) rfl rfl (add_n _ _ (num_bound y hi0 ha (by omega)).1)) ?_
          refine X.opw X.wN rfl (X.assign (v := .int .u64 _) rfl) ?_
          refine X.opsEnd ?_
          refine X.seq ?_
          refine X.seq ?_
          refine X.region ?_
          refine X.opw X.wN rfl (X.move (v := .slice _ _ _) rfl) ?_
          refine X.opw X.wN rfl (X.move (v := .int .i64 _) rfl) ?_
          refine X.opw X.wN rfl (X.idxS (hs.keep hk) Try.underlying25 Try.sizeOf5 rfl rfl ⟨by omega, by omega⟩) ?_
          refine X.opw X.wN rfl (X.loadS Try.isAgg5 (hs.keep hk) hx rfl (fun _ h => by rw [h.1]; rfl)) ?_
          refine X.opP X.wN rfl rfl (X.lss rfl rfl) (fun h52 => ?_) (fun h52 => ?_)
          · refine X.opsEnd ?_
            refine X.condT rfl ?_
            refine X.seq ?_
            refine X.region ?_
            refine X.opw X.wN rfl (X.move (v := .int .u64 _) rfl) ?_
            refine X.opw X.wN rfl (X.move (v := .int .i64 _) rfl) ?_
            refine X.opw X.wN rfl (X.add rfl rfl (X.w_i64 (by omega))) ?_
            refine X.opw X.wN rfl (X.assign (v := .int .u64 _) rfl) ?_
            refine X.opw X.wN rfl (X.assign (v := .int .i64 _) rfl) ?_
            refine X.opw X.wN rfl (X.assign rfl) ?_
            refine X.opsEnd ?_
            refine X.ret3 (v1 := (.int .u64 _)) (v2 := (.int .i64 _)) (v3 := (.int .i64 _)) Try.func32 Try.results32 rfl rfl rfl ?_
            first
            | exact ⟨by rw [← hp]; rfl, hk⟩
            | exact ⟨by rw [← hp, pNum, if_pos (by omega)]; rfl, hk⟩
            | exact ⟨by rw [← hp, pNum, if_neg (by omega), if_pos (by omega)]; simp only [told, cnt, code, Option.isSome_some, if_true]; rw [List.length_drop, show ((n : Nat) : Int) - ((l.length - (i + 1) : Nat) : Int) = (i : Int) + 1 by omega], hk⟩
          · refine X.opsEnd ?_
            refine X.condF rfl ?_
            refine X.skip ?_
            refine X.region ?_
            refine X.opw X.wN rfl (X.move (v := .int .u64 _) rfl) ?_
            refine X.opw X.wN rfl (X.mul (c := ((128 ^ (i + 1) : Nat) : Int)) rfl rfl (by have h8 := (num_bound y hi0 ha (by omega)).2.2 (by omega); have hp2 := pow128 i hi0; rw [← hp2.1]; exact mul_n (128 ^ i) 128 (by have := hp2.2.2.1 h8; omega))) ?_
            refine X.opw X.wN rfl (X.assign (v := .int .u64 _) rfl) ?_
            refine X.opsEnd ?_
            refine X.inBlock ?_
            refine X.region ?_
            refine X.opw X.wN rfl (X.move (v := .int .i64 _) rfl) ?_
            refine X.opw X.wN rfl (X.add rfl rfl (X.w_i64 (by omega))) ?_
            refine X.opw X.wN rfl (X.assign (v := .int .i64 _) rfl) ?_
            refine X.opsEnd ?_
            refine hback (i + 1, acc + y.toNat % 128 * 128 ^ i) _ _ ⟨rfl, rfl, rfl, rfl, trivial⟩ ⟨by dsimp only; omega, by have := (num_bound y hi0 ha (by omega)).2.2 (by omega); dsimp only; omega, (num_bound y hi0 ha (by omega)).2.1, by dsimp only; rw [← hp, pNum, if_neg (by omega), if_neg (by omega)], hk⟩ (by dsimp only; omega)
    · omega
  · rw [List.drop_of_length_le (by omega), pNum] at hp
    refine X.opw X.wN rfl (X.move (v := .bool false) rfl) ?_
    refine X.opS rfl rfl rfl rfl rfl ?_
    refine X.opS rfl rfl rfl rfl rfl ?_
    refine X.opw X.wN rfl (X.pickF (v := .bool false) rfl rfl) ?_
    refine X.opsEnd ?_
    refine X.condF rfl ?_
    refine X.exit rfl ?_
    refine X.seq ?_
    refine X.region ?_
    refine X.opw X.wN rfl (X.assign rfl) ?_
    refine X.opw X.wN rfl (X.assign rfl) ?_
    refine X.opw X.wN rfl (X.assign rfl) ?_
    refine X.opsEnd ?_
    refine X.ret3 (v1 := (.int .u64 _)) (v2 := (.int .i64 _)) (v3 := (.int .i64 _)) Try.func32 Try.results32 rfl rfl rfl ?_
    first
    | exact ⟨by rw [← hp]; rfl, hk⟩
    | exact ⟨by rw [← hp, pNum, if_pos (by omega)]; rfl, hk⟩
    | exact ⟨by rw [← hp, pNum, if_neg (by omega), if_pos (by omega)]; simp only [told, cnt, code, Option.isSome_some, if_true]; rw [List.length_drop, show ((n : Nat) : Int) - ((l.length - (i + 1) : Nat) : Int) = (i : Int) + 1 by omega], hk⟩
theorem told_lt (l : List UInt8) : told (pNum 0 0 l) 0 < 18446744073709551616 := by
  cases hp : pNum 0 0 l with
  | none => simp [told]
  | some b => exact pNum_lt l 0 0 b (by omega) (by simp) hp
theorem told_int (l : List UInt8) (n : Nat) : told (pInt l) 0 = unzig (told (pNum 0 0 l) 0) ∧ cnt (pInt l) n = cnt (pNum 0 0 l) n ∧ code (pInt l) = code (pNum 0 0 l) := by
  rw [pInt]
  cases pNum 0 0 l with
  | none => exact ⟨rfl, rfl, rfl⟩
  | some b => exact ⟨rfl, rfl, rfl⟩
theorem quo2 (a : Nat) (h : a < 18446744073709551616) : IntKind.u64.wrap (((a : Nat) : Int).tdiv 2) = ((a / 2 : Nat) : Int) := by
  show IntKind.u64.wrap ((a / 2 : Nat) : Int) = _
  exact w_u64 (by omega)
-- f34 "pedigree/pedigreeref03.TakeInt" params [25] results [2, 3, 3] -> [(ResultVar.tmp 2), (ResultVar.tmp 3)
set_option maxHeartbeats 4000000 in
set_option maxRecDepth 100000 in
theorem RTakeInt_c {lo hi : Nat} {A : Option Addr} {n c : Nat} {l : List UInt8} (w : World) (hs : Sl KB lo hi w A n l) (hnc : n ≤ c) (hn : n ≤ 1000000) : Ret Try.prog 34 #[.slice A n c] w fun r w' => r = .tuple #[.int .i64 (told (pInt l) 0), .int .i64 (cnt (pInt l) n), .int .i64 (code (pInt l))] ∧ Keep w w' := by
  have hl := hs.len
  have hlt := told_lt l
  obtain ⟨hi1, hi2, hi3⟩ := told_int l n
  refine X.enter Try.func34 rfl Try.ntmps34 rfl ?_
  refine X.seq ?_
  refine X.region ?_
  refine X.opw X.wN rfl (X.assign rfl) ?_
  refine X.opw X.wN rfl (X.assign rfl) ?_
  refine X.opw X.wN rfl (X.assign rfl) ?_
  refine X.opsEnd ?_
  refine X.seq ?_
  refine X.region ?_
  refine X.opw X.wN rfl (X.move (v := .slice _ _ _) rfl) ?_
  refine X.opE X.wN rfl (X.callE (RTakeNum_c _ hs (by omega) (by omega)) Try.call32 rfl rfl) ?_
  rintro _ w1 ⟨rfl, hk1⟩
  have hk1' := hk1.size
  refine X.opw X.wN rfl (X.move rfl) ?_
  refine X.opw X.wN rfl (X.extr rfl rfl) ?_
  refine X.opw X.wN rfl (X.extr rfl rfl) ?_
  refine X.opw X.wN rfl (X.extr rfl rfl) ?_
  refine X.opw X.wN rfl (X.assign (v := .int .u64 _) rfl) ?_
  refine X.opw X.wN rfl (X.assign (v := .int .i64 _) rfl) ?_
  refine X.opw X.wN rfl (X.assign (v := .int .i64 _) rfl) ?_
  refine X.opsEnd ?_
  refine X.seq ?_
  refine X.seq ?_
  refine X.region ?_
  refine X.opw X.wN rfl (X.move (v := .int .u64 _) rfl) ?_
  refine X.opw X.wN rfl (X.rem (c := ((told (pNum 0 0 l) 0 % 2 : Nat) : Int)) rfl rfl (by decide) rfl) ?_
  refine X.opP X.wN rfl rfl (X.eqI rfl rfl) (fun h16 => ?_) (fun h16 => ?_)
  · refine X.opsEnd ?_
    refine X.condT rfl ?_
    refine X.seq ?_
    refine X.region ?_
    refine X.opw X.wN rfl (X.move (v := .int .u64 _) rfl) ?_
    refine X.opw X.wN rfl (X.quo rfl rfl (by decide) (quo2 _ hlt)) ?_
    refine X.opw X.wN rfl (X.cvI Try.underlying33 Try.underlying2 rfl (X.w_i64 (by omega))) ?_
    refine X.opw X.wN rfl (X.neg rfl (X.w_i64 (by omega))) ?_
    refine X.opw X.wN rfl (X.sub rfl rfl (X.w_i64 (by omega))) ?_
    refine X.opw X.wN rfl (X.move (v := .int .i64 _) rfl) ?_
    refine X.opw X.wN rfl (X.move (v := .int .i64 _) rfl) ?_
    refine X.opw X.wN rfl (X.assign (v := .int .i64 _) rfl) ?_
    refine X.opw X.wN rfl (X.assign (v := .int .i64 _) rfl) ?_
    refine X.opw X.wN rfl (X.assign (v := .int .i64 _) rfl) ?_
    refine X.opsEnd ?_
    refine X.ret3 (v1 := (.int .i64 _)) (v2 := (.int .i64 _)) (v3 := (.int .i64 _)) Try.func34 Try.results34 rfl rfl rfl ?_
    refine ⟨?_, hk1⟩
    rw [hi1, hi2, hi3]
    unfold unzig
    rw [if_neg (by omega), Int.zero_sub]
  · refine X.opsEnd ?_
    refine X.condF rfl ?_
    refine X.skip ?_
    refine X.seq ?_
    refine X.region ?_
    refine X.opw X.wN rfl (X.move (v := .int .u64 _) rfl) ?_
    refine X.opw X.wN rfl (X.quo rfl rfl (by decide) (quo2 _ hlt)) ?_
    refine X.opw X.wN rfl (X.cvI Try.underlying33 Try.underlying2 rfl (X.w_i64 (by omega))) ?_
    refine X.opw X.wN rfl (X.move (v := .int .i64 _) rfl) ?_
    refine X.opw X.wN rfl (X.move (v := .int .i64 _) rfl) ?_
    refine X.opw X.wN rfl (X.assign (v := .int .i64 _) rfl) ?_
    refine X.opw X.wN rfl (X.assign (v := .int .i64 _) rfl) ?_
    refine X.opw X.wN rfl (X.assign (v := .int .i64 _) rfl) ?_
    refine X.opsEnd ?_
    refine X.ret3 (v1 := (.int .i64 _)) (v2 := (.int .i64 _)) (v3 := (.int .i64 _)) Try.func34 Try.results34 rfl rfl rfl ?_
    refine ⟨?_, hk1⟩
    rw [hi1, hi2, hi3]
    unfold unzig
    rw [if_pos (by omega)]
theorem cnt_bd (l : List UInt8) : 0 ≤ cnt (pNum 0 0 l) l.length ∧ cnt (pNum 0 0 l) l.length ≤ (l.length : Int) := by
  cases hp : pNum 0 0 l with
  | none => simp [cnt]
  | some b =>
    have hj := pNum_j hp
    have hl : l.length = (numB b.1).length + b.2.length := by conv => lhs; rw [hj]; rw [List.length_append]
    simp only [cnt]; omega
theorem pText_none {most : Int} {l : List UInt8} (h : code (pNum 0 0 l) ≠ 0 ∨ most < 0 ∨ most < ((told (pNum 0 0 l) 0 : Nat) : Int) ∨ 1048576 < told (pNum 0 0 l) 0 ∨ (l.length : Int) - cnt (pNum 0 0 l) l.length < ((told (pNum 0 0 l) 0 : Nat) : Int)) : pText most l = none := by
  unfold pText
  cases hp : pNum 0 0 l with
  | none => rfl
  | some b =>
    obtain ⟨a, ys⟩ := b
    rw [hp] at h
    simp only [told, cnt, code, Option.isSome_some, if_true] at h
    dsimp only
    rw [if_pos (by omega)]
theorem pText_some {most : Int} {l : List UInt8} (h0 : code (pNum 0 0 l) = 0) (h1 : ¬ most < 0) (h2 : ¬ most < ((told (pNum 0 0 l) 0 : Nat) : Int)) (h3 : ¬ 1048576 < told (pNum 0 0 l) 0) (h4 : ¬ (l.length : Int) - cnt (pNum 0 0 l) l.length < ((told (pNum 0 0 l) 0 : Nat) : Int)) :
    ∃ k a : Nat, cnt (pNum 0 0 l) l.length = (k : Int) ∧ told (pNum 0 0 l) 0 = a ∧ k + a ≤ l.length ∧ pText most l = some ((l.drop k).take a, l.drop (k + a)) := by
  unfold pText
  cases hp : pNum 0 0 l with
  | none => rw [hp] at h0; simp [code] at h0
  | some b =>
    obtain ⟨a, ys⟩ := b
    have hj := pNum_j hp
    rw [hp] at h2 h3 h4
    simp only [told, cnt] at h2 h3 h4 ⊢
    have hl : l.length = (numB a).length + ys.length := by conv => lhs; rw [hj]; rw [List.length_append]
    have hd : l.drop (numB a).length = ys := by conv => lhs; rw [hj]; simp
    refine ⟨(numB a).length, a, by omega, rfl, by omega, ?_⟩
    rw [if_neg (by omega), hd, ← List.drop_drop, hd]
-- f36 "pedigree/pedigreeref03.TakeText" params [25, 3] results [25, 3, 3] -> [(ResultVar.tmp 4), (ResultVar.t
set_option maxHeartbeats 4000000 in
set_option maxRecDepth 100000 in
theorem RTakeText_c (most : Int) (hmo : okI most) {lo hi : Nat} {A : Option Addr} {n c : Nat} {l : List UInt8} (w : World) (hs : Sl KB lo hi w A n l) (hnc : n ≤ c) (hn : n ≤ 1000000) : Ret Try.prog 36 #[.slice A n c, .int .i64 most] w fun r w' => ∃ v, r = .tuple #[v, .int .i64 (cnt (pText most l) n), .int .i64 (code (pText most l))] ∧ Mine KB 5 (fun k => w.heap.size ≤ k) 0 0 w' v (told (pText most l) []) ∧ Keep w w' := by
  have hl := hs.len
  have hlt := told_lt l
  have hcb := cnt_bd l
  rw [hl] at hcb
  unfold okI at hmo
  refine X.enter Try.func36 rfl Try.ntmps36 rfl ?_
  refine X.seq ?_
  refine X.region ?_
  refine X.opw X.wN rfl (X.assign rfl) ?_
  refine X.opw X.wN rfl (X.assign rfl) ?_
  refine X.opw X.wN rfl (X.assign rfl) ?_
  refine X.opsEnd ?_
  refine X.seq ?_
  refine X.region ?_
  refine X.opw X.wN rfl (X.move (v := .slice _ _ _) rfl) ?_
  refine X.opE X.wN rfl (X.callE (RTakeNum_c _ hs (by omega) (by omega)) Try.call32 rfl rfl) ?_
  rintro _ w1 ⟨rfl, hk1⟩
  have hk1' := hk1.size
  refine X.opw X.wN rfl (X.move rfl) ?_
  refine X.opw X.wN rfl (X.extr rfl rfl) ?_
  refine X.opw X.wN rfl (X.extr rfl rfl) ?_
  refine X.opw X.wN rfl (X.extr rfl rfl) ?_
  refine X.opw X.wN rfl (X.assign (v := .int .u64 _) rfl) ?_
  refine X.opw X.wN rfl (X.assign (v := .int .i64 _) rfl) ?_
  refine X.opw X.wN rfl (X.assign (v := .int .i64 _) rfl) ?_
  refine X.opsEnd ?_
  refine X.seq ?_
  refine X.seq ?_
  refine X.region ?_
  refine X.opw X.wN rfl (X.move (v := .int .i64 _) rfl) ?_
  refine X.opP X.wN rfl rfl (X.neI rfl rfl) (fun h17 => ?_) (fun h17 => ?_)
  · refine X.opw X.wN rfl (X.move (v := .bool true) rfl) ?_
    refine X.opS rfl rfl rfl rfl rfl ?_
    refine X.opS rfl rfl rfl rfl rfl ?_
    refine X.opw X.wN rfl (X.pickT (v := .bool true) rfl rfl) ?_
    refine X.opw X.wN rfl (X.move (v := .bool true) rfl) ?_
    refine X.opS rfl rfl rfl rfl rfl ?_
    refine X.opS rfl rfl rfl rfl rfl ?_
    refine X.opS rfl rfl rfl rfl rfl ?_
    refine X.opS rfl rfl rfl rfl rfl ?_
    refine X.opw X.wN rfl (X.pickT (v := .bool true) rfl rfl) ?_
    refine X.opw X.wN rfl (X.move (v := .bool true) rfl) ?_
    refine X.opS rfl rfl rfl rfl rfl ?_
    refine X.opS rfl rfl rfl rfl rfl ?_
    refine X.opw X.wN rfl (X.pickT (v := .bool true) rfl rfl) ?_
    refine X.opw X.wN rfl (X.move (v := .bool true) rfl) ?_
    refine X.opS rfl rfl rfl rfl rfl ?_
    refine X.opS rfl rfl rfl rfl rfl ?_
    refine X.opS rfl rfl rfl rfl rfl ?_
    refine X.opS rfl rfl rfl rfl rfl ?_
    refine X.opS rfl rfl rfl rfl rfl ?_
    refine X.opS rfl rfl rfl rfl rfl ?_
    refine X.opS rfl rfl rfl rfl rfl ?_
    refine X.opw X.wN rfl (X.pickT (v := .bool true) rfl rfl) ?_
    refine X.opsEnd ?_
    refine X.condT rfl ?_
    refine X.seq ?_
    refine X.region ?_
    refine X.opw X.wN rfl (X.assign rfl) ?_
    refine X.opw X.wN rfl (X.assign rfl) ?_
    refine X.opw X.wN rfl (X.assign rfl) ?_
    refine X.opsEnd ?_
    refine X.ret3 (v2 := (.int .i64 _)) (v3 := (.int .i64 _)) Try.func36 Try.results36 rfl rfl rfl ?_
    first
    | (have e := pText_none (most := most) (l := l) (by rw [hl]; omega); exact ⟨_, by rw [e]; rfl, by rw [e]; exact (Mine.nil _ _ _ _ _ _), hk1⟩)
    | exact ⟨_, by rw [hpt]; simp only [cnt, code, Option.isSome_some, if_true]; rw [List.length_drop, show ((n : Nat) : Int) - ((l.length - (k + a) : Nat) : Int) = cnt (pNum 0 0 l) n + ((told (pNum 0 0 l) 0 : Nat) : Int) by omega]; have h0 : code (pNum 0 0 l) = 0 := (by omega); first | rfl | rw [h0], by rw [hpt]; exact (Mine.nil _ _ _ _ _ _), hk1⟩
  · refine X.opw X.wN rfl (X.move (v := .bool false) rfl) ?_
    refine X.opw (X.wG rfl rfl rfl) rfl (X.move (v := .int .i64 _) rfl) ?_
    refine X.opP (X.wG rfl rfl rfl) rfl rfl (X.lss rfl rfl) (fun h20 => ?_) (fun h20 => ?_)
    · refine X.opw X.wN rfl (X.pickF (v := .bool true) rfl rfl) ?_
      refine X.opw X.wN rfl (X.move (v := .bool true) rfl) ?_
      refine X.opS rfl rfl rfl rfl rfl ?_
      refine X.opS rfl rfl rfl rfl rfl ?_
      refine X.opS rfl rfl rfl rfl rfl ?_
      refine X.opS rfl rfl rfl rfl rfl ?_
      refine X.opw X.wN rfl (X.pickT (v := .bool true) rfl rfl) ?_
      refine X.opw X.wN rfl (X.move (v := .bool true) rfl) ?_
      refine X.opS rfl rfl rfl rfl rfl ?_
      refine X.opS rfl rfl rfl rfl rfl ?_
      refine X.opw X.wN rfl (X.pickT (v := .bool true) rfl rfl) ?_
      refine X.opw X.wN rfl (X.move (v := .bool true) rfl) ?_
      refine X.opS rfl rfl rfl rfl rfl ?_
      refine X.opS rfl rfl rfl rfl rfl ?_
      refine X.opS rfl rfl rfl rfl rfl ?_
      refine X.opS rfl rfl rfl rfl rfl ?_
      refine X.opS rfl rfl rfl rfl rfl ?_
      refine X.opS rfl rfl rfl rfl rfl ?_
      refine X.opS rfl rfl rfl rfl rfl ?_
      refine X.opw X.wN rfl (X.pickT (v := .bool true) rfl rfl) ?_
      refine X.opsEnd ?_
      refine X.condT rfl ?_
      refine X.seq ?_
      refine X.region ?_
      refine X.opw X.wN rfl (X.assign rfl) ?_
      refine X.opw X.wN rfl (X.assign rfl) ?_
      refine X.opw X.wN rfl (X.assign rfl) ?_
      refine X.opsEnd ?_
      refine X.ret3 (v2 := (.int .i64 _)) (v3 := (.int .i64 _)) Try.func36 Try.results36 rfl rfl rfl ?_
      first
      | (have e := pText_none (most := most) (l := l) (by rw [hl]; omega); exact ⟨_, by rw [e]; rfl, by rw [e]; exact (Mine.nil _ _ _ _ _ _), hk1⟩)
      | exact ⟨_, by rw [hpt]; simp only [cnt, code, Option.isSome_some, if_true]; rw [List.length_drop, show ((n : Nat) : Int) - ((l.length - (k + a) : Nat) : Int) = cnt (pNum 0 0 l) n + ((told (pNum 0 0 l) 0 : Nat) : Int) by omega]; have h0 : code (pNum 0 0 l) = 0 := (by omega); first | rfl | rw [h0], by rw [hpt]; exact (Mine.nil _ _ _ _ _ _), hk1⟩
    · refine X.opw X.wN rfl (X.pickF (v := .bool false) rfl rfl) ?_
      refine X.opw X.wN rfl (X.move (v := .bool false) rfl) ?_
      refine X.opw (X.wG rfl rfl rfl) rfl (X.move (v := .int .u64 _) rfl) ?_
      refine X.opw (X.wG rfl rfl rfl) rfl (X.move (v := .int .i64 _) rfl) ?_
      refine X.opw (X.wG rfl rfl rfl) rfl (X.cvI Try.underlying3 Try.underlying33 rfl (X.w_u64 (by omega))) ?_
      refine X.opP (X.wG rfl rfl rfl) rfl rfl (X.gtr rfl rfl) (fun h26 => ?_) (fun h26 => ?_)
      · refine X.opw X.wN rfl (X.pickF (v := .bool true) rfl rfl) ?_
        refine X.opw X.wN rfl (X.move (v := .bool true) rfl) ?_
        refine X.opS rfl rfl rfl rfl rfl ?_
        refine X.opS rfl rfl rfl rfl rfl ?_
        refine X.opw X.wN rfl (X.pickT (v := .bool true) rfl rfl) ?_
        refine X.opw X.wN rfl (X.move (v := .bool true) rfl) ?_
        refine X.opS rfl rfl rfl rfl rfl ?_
        refine X.opS rfl rfl rfl rfl rfl ?_
        refine X.opS rfl rfl rfl rfl rfl ?_
        refine X.opS rfl rfl rfl rfl rfl ?_
        refine X.opS rfl rfl rfl rfl rfl ?_
        refine X.opS rfl rfl rfl rfl rfl ?_
        refine X.opS rfl rfl rfl rfl rfl ?_
        refine X.opw X.wN rfl (X.pickT (v := .bool true) rfl rfl) ?_
        refine X.opsEnd ?_
        refine X.condT rfl ?_
        refine X.seq ?_
        refine X.region ?_
        refine X.opw X.wN rfl (X.assign rfl) ?_
        refine X.opw X.wN rfl (X.assign rfl) ?_
        refine X.opw X.wN rfl (X.assign rfl) ?_
        refine X.opsEnd ?_
        refine X.ret3 (v2 := (.int .i64 _)) (v3 := (.int .i64 _)) Try.func36 Try.results36 rfl rfl rfl ?_
        first
        | (have e := pText_none (most := most) (l := l) (by rw [hl]; omega); exact ⟨_, by rw [e]; rfl, by rw [e]; exact (Mine.nil _ _ _ _ _ _), hk1⟩)
        | exact ⟨_, by rw [hpt]; simp only [cnt, code, Option.isSome_some, if_true]; rw [List.length_drop, show ((n : Nat) : Int) - ((l.length - (k + a) : Nat) : Int) = cnt (pNum 0 0 l) n + ((told (pNum 0 0 l) 0 : Nat) : Int) by omega]; have h0 : code (pNum 0 0 l) = 0 := (by omega); first | rfl | rw [h0], by rw [hpt]; exact (Mine.nil _ _ _ _ _ _), hk1⟩
      · refine X.opw X.wN rfl (X.pickF (v := .bool false) rfl rfl) ?_
        refine X.opw X.wN rfl (X.move (v := .bool false) rfl) ?_
        refine X.opw (X.wG rfl rfl rfl) rfl (X.move (v := .int .u64 _) rfl) ?_
        refine X.opP (X.wG rfl rfl rfl) rfl rfl (X.gtr rfl rfl) (fun h30 => ?_) (fun h30 => ?_)
        · refine X.opw X.wN rfl (X.pickF (v := .bool true) rfl rfl) ?_
          refine X.opw X.wN rfl (X.move (v := .bool true) rfl) ?_
          refine X.opS rfl rfl rfl rfl rfl ?_
          refine X.opS rfl rfl rfl rfl rfl ?_
          refine X.opS rfl rfl rfl rfl rfl ?_
          refine X.opS rfl rfl rfl rfl rfl ?_
          refine X.opS rfl rfl rfl rfl rfl ?_
          refine X.opS rfl rfl rfl rfl rfl ?_
          refine X.opS rfl rfl rfl rfl rfl ?_
          refine X.opw X.wN rfl (X.pickT (v := .bool true) rfl rfl) ?_
          refine X.opsEnd ?_
          refine X.condT rfl ?_
          refine X.seq ?_
          refine X.region ?_
          refine X.opw X.wN rfl (X.assign rfl) ?_
          refine X.opw X.wN rfl (X.assign rfl) ?_
          refine X.opw X.wN rfl (X.assign rfl) ?_
          refine X.opsEnd ?_
          refine X.ret3 (v2 := (.int .i64 _)) (v3 := (.int .i64 _)) Try.func36 Try.results36 rfl rfl rfl ?_
          first
          | (have e := pText_none (most := most) (l := l) (by rw [hl]; omega); exact ⟨_, by rw [e]; rfl, by rw [e]; exact (Mine.nil _ _ _ _ _ _), hk1⟩)
          | exact ⟨_, by rw [hpt]; simp only [cnt, code, Option.isSome_some, if_true]; rw [List.length_drop, show ((n : Nat) : Int) - ((l.length - (k + a) : Nat) : Int) = cnt (pNum 0 0 l) n + ((told (pNum 0 0 l) 0 : Nat) : Int) by omega]; have h0 : code (pNum 0 0 l) = 0 := (by omega); first | rfl | rw [h0], by rw [hpt]; exact (Mine.nil _ _ _ _ _ _), hk1⟩
        · refine X.opw X.wN rfl (X.pickF (v := .bool false) rfl rfl) ?_
          refine X.opw X.wN rfl (X.move (v := .bool false) rfl) ?_
          refine X.opw (X.wG rfl rfl rfl) rfl (X.move (v := .int .u64 _) rfl) ?_
          refine X.opw (X.wG rfl rfl rfl) rfl (X.move (v := .slice _ _ _) rfl) ?_
          refine X.opw (X.wG rfl rfl rfl) rfl (X.lenSl Try.underlying25 rfl) ?_
          refine X.opw (X.wG rfl rfl rfl) rfl (X.move (v := .int .i64 _) rfl) ?_
          refine X.opw (X.wG rfl rfl rfl) rfl (X.sub rfl rfl (X.w_i64 (by omega))) ?_
          refine X.opw (X.wG rfl rfl rfl) rfl (X.cvI Try.underlying3 Try.underlying33 rfl (X.w_u64 (by omega))) ?_
          refine X.opP (X.wG rfl rfl rfl) rfl rfl (X.gtr rfl rfl) (fun h39 => ?_) (fun h39 => ?_)
          · refine X.opw X.wN rfl (X.pickF (v := .bool true) rfl rfl) ?_
            refine X.opsEnd ?_
            refine X.condT rfl ?_
            refine X.seq ?_
            refine X.region ?_
            refine X.opw X.wN rfl (X.assign rfl) ?_
            refine X.opw X.wN rfl (X.assign rfl) ?_
            refine X.opw X.wN rfl (X.assign rfl) ?_
            refine X.opsEnd ?_
            refine X.ret3 (v2 := (.int .i64 _)) (v3 := (.int .i64 _)) Try.func36 Try.results36 rfl rfl rfl ?_
            first
            | (have e := pText_none (most := most) (l := l) (by rw [hl]; omega); exact ⟨_, by rw [e]; rfl, by rw [e]; exact (Mine.nil _ _ _ _ _ _), hk1⟩)
            | exact ⟨_, by rw [hpt]; simp only [cnt, code, Option.isSome_some, if_true]; rw [List.length_drop, show ((n : Nat) : Int) - ((l.length - (k + a) : Nat) : Int) = cnt (pNum 0 0 l) n + ((told (pNum 0 0 l) 0 : Nat) : Int) by omega]; have h0 : code (pNum 0 0 l) = 0 := (by omega); first | rfl | rw [h0], by rw [hpt]; exact (Mine.nil _ _ _ _ _ _), hk1⟩
          · rw [← hl] at h39
            obtain ⟨k, a, hk1e, hae, hka, hpt⟩ := pText_some (most := most) (l := l) (by omega) (by omega) (by omega) (by omega) (by omega)
            rw [hl] at hk1e
            refine X.opw X.wN rfl (X.pickF (v := .bool false) rfl rfl) ?_
            refine X.opsEnd ?_
            refine X.condF rfl ?_
            refine X.skip ?_
            refine X.seq ?_
            refine X.region ?_
            refine X.opE X.wN rfl (X.lit0E (K := KB) (S := fun k => w.heap.size ≤ k) Try.underlying25 Try.sizeOf5 (by intros; (try simp only [] at *); omega)) ?_
            rintro v2 w2 ⟨hM2, hk2, hz2⟩
            refine X.opw X.wN rfl (X.move (v := .slice _ _ _) rfl) ?_
            refine X.opw X.wN rfl (X.move (v := .int .i64 _) rfl) ?_
            refine X.opw X.wN rfl (X.move (v := .int .i64 _) rfl) ?_
            refine X.opw X.wN rfl (X.move (v := .int .u64 _) rfl) ?_
            refine X.opw X.wN rfl (X.cvI Try.underlying33 Try.underlying3 rfl (X.w_i64 (by omega))) ?_
            refine X.opw X.wN rfl (X.add rfl rfl (X.w_i64 (by omega))) ?_
            refine X.opw X.wN rfl (X.cutLH Try.underlying25 Try.sizeOf5 rfl rfl rfl (by omega)) ?_
            refine X.opE X.wN rfl (X.appE (K := KB) (S := fun k => w.heap.size ≤ k) KB_flat Try.underlying25 E5 rfl rfl hM2 ((show Sl KB lo hi _ _ _ ((l.drop k).take a) from by have e := (hs.drop k c (by omega) hnc).take a (by omega); have e2 : (cnt (pNum 0 0 l) n + ((told (pNum 0 0 l) 0 : Nat) : Int)).toNat - (cnt (pNum 0 0 l) n).toNat = a := (by omega); have e3 : (cnt (pNum 0 0 l) n).toNat = k := (by omega); rw [e2, e3]; exact e).keep (hk1.trans hk2)) (by (try simp only [List.length_append, List.length_cons, List.length_nil, List.length_take, List.length_drop, List.length_map, List.length_range]); omega) (by intros; (try simp only [] at *); omega)) ?_
            rintro v3 w3 ⟨hM3, hx3⟩
            have hx3' := hx3.size
            refine X.opw X.wN rfl (X.move (v := .int .i64 _) rfl) ?_
            refine X.opw X.wN rfl (X.move (v := .int .u64 _) rfl) ?_
            refine X.opw X.wN rfl (X.cvI Try.underlying33 Try.underlying3 rfl (X.w_i64 (by omega))) ?_
            refine X.opw X.wN rfl (X.add rfl rfl (X.w_i64 (by omega))) ?_
            refine X.opw X.wN rfl (X.assign rfl) ?_
            refine X.opw X.wN rfl (X.assign (v := .int .i64 _) rfl) ?_
            refine X.opw X.wN rfl (X.assign rfl) ?_
            refine X.opsEnd ?_
            refine X.ret3 (v2 := (.int .i64 _)) (v3 := (.int .i64 _)) Try.func36 Try.results36 rfl rfl rfl ?_
            first
            | (have e := pText_none (most := most) (l := l) (by rw [hl]; omega); exact ⟨_, by rw [e]; rfl, by rw [e]; exact hM3, ((hk1.trans hk2).step hx3 (by intros; (try simp only [] at *); omega))⟩)
            | exact ⟨_, by rw [hpt]; simp only [cnt, code, Option.isSome_some, if_true]; rw [List.length_drop, show ((n : Nat) : Int) - ((l.length - (k + a) : Nat) : Int) = cnt (pNum 0 0 l) n + ((told (pNum 0 0 l) 0 : Nat) : Int) by omega]; have h0 : code (pNum 0 0 l) = 0 := (by omega); first | rfl | rw [h0], by rw [hpt]; exact hM3, ((hk1.trans hk2).step hx3 (by intros; (try simp only [] at *); omega))⟩
end Go.Proofs.Ytaclpphhidlgpaa
