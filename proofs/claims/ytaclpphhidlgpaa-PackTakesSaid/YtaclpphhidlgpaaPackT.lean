/- The reference's own reading of a key. -/
import Derived.Test.YtaclpphhidlgpaaPackS
namespace Go.Proofs.Ytaclpphhidlgpaa
open Go Go.Proofs.Ytaclpphhidlgpaa.X
set_option linter.unusedVariables false
set_option linter.unusedSimpArgs false

/-- A whole symbol at the front of a key. -/
def symR : List UInt8 → Option (List UInt8 × List UInt8)
  | [] => none
  | c :: xs => if c.toNat = 2 then pSym xs else none
def symS (l : List UInt8) : List UInt8 := match symR l with
  | some b => b.1
  | none => []
def symN (l : List UInt8) : Int := match symR l with
  | some b => (l.length : Int) - (b.2.length : Int)
  | none => 0
def symV (l : List UInt8) : Value := .tuple #[.string ⟨(symS l).toArray⟩, .int .i64 (symN l), .bool (symR l).isSome]
theorem symV_none {l : List UInt8} (h : symR l = none) : symV l = .tuple #[.string ⟨#[]⟩, .int .i64 0, .bool false] := by rw [symV, symS, symN, h]; rfl
theorem symV_some {l : List UInt8} {b : List UInt8 × List UInt8} (h : symR l = some b) : symV l = .tuple #[.string ⟨b.1.toArray⟩, .int .i64 ((l.length : Int) - (b.2.length : Int)), .bool true] := by rw [symV, symS, symN, h]; rfl
theorem pSym_short {l : List UInt8} (h : l.length ≤ 1) : pSym l = none := by
  rcases l with _ | ⟨c, _ | ⟨d, l⟩⟩
  · rfl
  · by_cases hc : c.toNat = 0
    · rw [pSym_0 hc]
    · rw [pSym_1 hc]; rfl
  · simp at h
-- f48 "pedigree/pedigreeref03.symbol" params [25] results [9, 3, 4] -> [(ResultVar.tmp 2), (ResultVar.tmp 3),
set_option maxHeartbeats 4000000 in
set_option maxRecDepth 100000 in
theorem Rsymbol_c {lo hi : Nat} {A : Option Addr} {n c : Nat} {l : List UInt8} (w : World) (hs : Sl KB lo hi w A n l) (hn : n ≤ 1000000) : Ret Try.prog 48 #[.slice A n c] w fun r w' => r = symV l ∧ Keep w w' := by
  have hl := hs.len
  refine X.enter Try.func48 rfl Try.ntmps48 rfl ?_
  refine X.seq ?_
  refine X.region ?_
  refine X.opw X.wN rfl (X.assign rfl) ?_
  refine X.opw X.wN rfl (X.assign rfl) ?_
  refine X.opw X.wN rfl (X.assign rfl) ?_
  refine X.opsEnd ?_
  refine X.seq ?_
  refine X.seq ?_
  refine X.region ?_
  refine X.opw X.wN rfl (X.move (v := .slice _ _ _) rfl) ?_
  refine X.opw X.wN rfl (X.lenSl Try.underlying25 rfl) ?_
  refine X.opP X.wN rfl rfl (X.eqI rfl rfl) (fun h9 => ?_) (fun h9 => ?_)
  · refine X.opw X.wN rfl (X.move (v := .bool true) rfl) ?_
    refine X.opS rfl rfl rfl rfl rfl ?_
    refine X.opS rfl rfl rfl rfl rfl ?_
    refine X.opS rfl rfl rfl rfl rfl ?_
    refine X.opS rfl rfl rfl rfl rfl ?_
    refine X.opw X.wN rfl (X.pickT (v := .bool true) rfl rfl) ?_
    refine X.opsEnd ?_
    refine X.condT rfl ?_
    refine X.seq ?_
    refine X.region ?_
    refine X.opw X.wN rfl (X.assign rfl) ?_
    refine X.opw X.wN rfl (X.assign rfl) ?_
    refine X.opw X.wN rfl (X.assign rfl) ?_
    refine X.opsEnd ?_
    refine X.ret3 (v1 := (.string _)) (v2 := (.int .i64 _)) (v3 := (.bool _)) Try.func48 Try.results48 rfl rfl rfl ?_
    first
    | exact ⟨by rw [symV_none (by rw [show l = [] from List.eq_nil_of_length_eq_zero (by omega)]; rfl)], (Keep.refl _)⟩
    | exact ⟨by rw [symV_none (by rw [symR, if_neg (by omega)])], (Keep.refl _)⟩
    | exact ⟨by rw [symV_none (by rw [symR, if_pos (by omega), ← hp, pSym_short (by rw [List.length_drop]; omega)]; rfl)], (Keep.refl _)⟩
    | exact ⟨by rw [symV_none (by rw [symR, if_pos (by omega), ← hp, hd, pSym_0 (by omega), hd2]; dsimp only; rw [if_neg (by omega), if_neg (by omega)]; rfl)], (Keep.refl _)⟩
    | (refine ⟨?_, (Keep.refl _)⟩; rw [symV_some (b := (s, (x0 :: ys0).drop (i + 1 + 1))) (by rw [symR, if_pos (by omega), ← hp, hd, pSym_0 (by omega), hd2]; dsimp only; rw [if_pos (by omega)]; dsimp only [Option.map_some]; rw [List.append_nil])]; dsimp only; rw [show (((x0 :: ys0).length : Int) - (((x0 :: ys0).drop (i + 1 + 1)).length : Int)) = (i : Int) + 2 by rw [List.length_drop]; omega])
  · obtain ⟨x0, ys0, rfl⟩ : ∃ x ys, l = x :: ys := by
      cases l with
      | nil => exact absurd (by rw [← hl]; rfl) h9
      | cons x ys => exact ⟨x, ys, rfl⟩
    have hu0 := x0.toNat_lt
    refine X.opw X.wN rfl (X.move (v := .bool false) rfl) ?_
    refine X.opw (X.wG rfl rfl rfl) rfl (X.move (v := .slice _ _ _) rfl) ?_
    refine X.opw (X.wG rfl rfl rfl) rfl (X.idxS hs Try.underlying25 Try.sizeOf5 rfl rfl ⟨by omega, by omega⟩) ?_
    refine X.opw (X.wG rfl rfl rfl) rfl (X.loadS Try.isAgg5 hs (j := 0) rfl rfl (fun _ h => by rw [h.1]; rfl)) ?_
    refine X.opP (X.wG rfl rfl rfl) rfl rfl (X.neI rfl rfl) (fun h14 => ?_) (fun h14 => ?_)
    · refine X.opw X.wN rfl (X.pickF (v := .bool true) rfl rfl) ?_
      refine X.opsEnd ?_
      refine X.condT rfl ?_
      refine X.seq ?_
      refine X.region ?_
      refine X.opw X.wN rfl (X.assign rfl) ?_
      refine X.opw X.wN rfl (X.assign rfl) ?_
      refine X.opw X.wN rfl (X.assign rfl) ?_
      refine X.opsEnd ?_
      refine X.ret3 (v1 := (.string _)) (v2 := (.int .i64 _)) (v3 := (.bool _)) Try.func48 Try.results48 rfl rfl rfl ?_
      first
      | exact ⟨by rw [symV_none (by rw [show l = [] from List.eq_nil_of_length_eq_zero (by omega)]; rfl)], (Keep.refl _)⟩
      | exact ⟨by rw [symV_none (by rw [symR, if_neg (by omega)])], (Keep.refl _)⟩
      | exact ⟨by rw [symV_none (by rw [symR, if_pos (by omega), ← hp, pSym_short (by rw [List.length_drop]; omega)]; rfl)], (Keep.refl _)⟩
      | exact ⟨by rw [symV_none (by rw [symR, if_pos (by omega), ← hp, hd, pSym_0 (by omega), hd2]; dsimp only; rw [if_neg (by omega), if_neg (by omega)]; rfl)], (Keep.refl _)⟩
      | (refine ⟨?_, (Keep.refl _)⟩; rw [symV_some (b := (s, (x0 :: ys0).drop (i + 1 + 1))) (by rw [symR, if_pos (by omega), ← hp, hd, pSym_0 (by omega), hd2]; dsimp only; rw [if_pos (by omega)]; dsimp only [Option.map_some]; rw [List.append_nil])]; dsimp only; rw [show (((x0 :: ys0).length : Int) - (((x0 :: ys0).drop (i + 1 + 1)).length : Int)) = (i : Int) + 2 by rw [List.length_drop]; omega])
    · refine X.opw X.wN rfl (X.pickF (v := .bool false) rfl rfl) ?_
      refine X.opsEnd ?_
      refine X.condF rfl ?_
      refine X.skip ?_
      refine X.seq ?_
      refine X.region ?_
      refine X.opw X.wN rfl (X.assign rfl) ?_
      refine X.opsEnd ?_
      refine X.seq ?_
      refine X.seq ?_
      refine X.region ?_
      refine X.opw X.wN rfl (X.assign rfl) ?_
      refine X.opsEnd ?_
      refine X.block ?_
      -- LOOP live: 0=b, 5=s*, 6=i*
      refine X.loopL (σ := Nat × Value × List UInt8) (fun s => [(0, .slice A n c), (5, s.2.1), (6, .int .i64 (s.1 : Int))]) (fun s w' => s.1 ≤ n ∧ s.2.2.length ≤ s.1 ∧ Mine KB 5 (fun k => w.heap.size ≤ k) 0 0 w' s.2.1 s.2.2 ∧ ((pSym ((x0 :: ys0).drop s.1)).map fun b => (s.2.2 ++ b.1, b.2)) = pSym ys0 ∧ Keep w w') (fun s => n - s.1) (1, _, []) ⟨rfl, rfl, rfl, trivial⟩ ⟨by simp only [List.length_cons] at hl; dsimp only; omega, by simp, (Mine.nil _ _ _ _ _ _), by simp, (Keep.refl _)⟩ ?_
      rintro ⟨i, v, s⟩ b wl ⟨hi0, hsl, hM, hp, hk⟩ hback
      simp only at hi0 hsl hM hp
      have hk' := hk.size
      refine X.seq ?_
      refine X.seq ?_
      refine X.region ?_
      refine X.opw X.wN rfl (X.move (v := .int .i64 _) rfl) ?_
      refine X.opw X.wN rfl (X.add rfl rfl (X.w_i64 (by omega))) ?_
      refine X.opw X.wN rfl (X.move (v := .slice _ _ _) rfl) ?_
      refine X.opw X.wN rfl (X.lenSl Try.underlying25 rfl) ?_
      refine X.opP X.wN rfl rfl (X.lss rfl rfl) (fun h20 => ?_) (fun h20 => ?_)
      · obtain ⟨x, hx⟩ := getN i hl (by omega)
        obtain ⟨y, hy⟩ := getN (i + 1) hl (by omega)
        have hd := drop_at hx
        have hd2 := drop_at hy
        have hux := x.toNat_lt
        have huy := y.toNat_lt
        refine X.opsEnd ?_
        refine X.condT rfl ?_
        refine X.skip ?_
        refine X.seq ?_
        refine X.block ?_
        refine X.block ?_
        refine X.seq ?_
        refine X.region ?_
        refine X.opw X.wN rfl (X.move (v := .slice _ _ _) rfl) ?_
        refine X.opw X.wN rfl (X.move (v := .int .i64 _) rfl) ?_
        refine X.opw X.wN rfl (X.idxS (hs.keep hk) Try.underlying25 Try.sizeOf5 rfl rfl ⟨by omega, by omega⟩) ?_
        refine X.opw X.wN rfl (X.loadS Try.isAgg5 (hs.keep hk) hx rfl (fun _ h => by rw [h.1]; rfl)) ?_
        refine X.opP X.wN rfl rfl (X.neI rfl rfl) (fun h28 => ?_) (fun h28 => ?_)
        · refine X.opw X.wN rfl (X.assign (v := .bool true) rfl) ?_
          refine X.opsEnd ?_
          refine X.condT rfl ?_
          refine X.region ?_
          refine X.opw X.wN rfl (X.move rfl) ?_
          refine X.opw X.wN rfl (X.move (v := .slice _ _ _) rfl) ?_
          refine X.opw X.wN rfl (X.move (v := .int .i64 _) rfl) ?_
          refine X.opw X.wN rfl (X.idxS (hs.keep hk) Try.underlying25 Try.sizeOf5 rfl rfl ⟨by omega, by omega⟩) ?_
          refine X.opw X.wN rfl (X.loadS Try.isAgg5 (hs.keep hk) hx rfl (fun _ h => by rw [h.1]; rfl)) ?_
          refine X.opE X.wN rfl (X.lit1B Try.underlying25 Try.sizeOf5 Try.zeroValue5 rfl) ?_
          rintro _ w1 ⟨rfl, hs1, hB1, hk1, hz1⟩
          refine X.opE X.wN rfl (X.appE (K := KB) (S := fun k => w.heap.size ≤ k) KB_flat Try.underlying25 E5 rfl rfl (hM.keep hk1) hs1 (by (try simp only [List.length_append, List.length_cons, List.length_nil, List.length_take, List.length_drop, List.length_map, List.length_range]); omega) (by intros; (try simp only [] at *); omega)) ?_
          rintro v2 w2 ⟨hM2, hx2⟩
          have hx2' := hx2.size
          refine X.opw X.wN rfl (X.assign rfl) ?_
          refine X.opsEnd ?_
          refine X.inBlock ?_
          refine X.inBlock ?_
          refine X.region ?_
          refine X.opw X.wN rfl (X.move (v := .int .i64 _) rfl) ?_
          refine X.opw X.wN rfl (X.add rfl rfl (X.w_i64 (by omega))) ?_
          refine X.opw X.wN rfl (X.assign (v := .int .i64 _) rfl) ?_
          refine X.opsEnd ?_
          refine hback (i + 1, _, s ++ [x]) _ _ ⟨rfl, rfl, rfl, trivial⟩ ⟨by dsimp only; omega, by simp only [List.length_append, List.length_cons, List.length_nil]; omega, hM2, by dsimp only; rw [← hp, hd, pSym_1 (by omega), map_map_cons], ((hk.trans hk1).step hx2 (by intros; (try simp only [] at *); omega))⟩ (by dsimp only; omega)
        · refine X.opw X.wN rfl (X.assign (v := .bool false) rfl) ?_
          refine X.opsEnd ?_
          refine X.condF rfl ?_
          refine X.seq ?_
          refine X.region ?_
          refine X.opw X.wN rfl (X.move (v := .slice _ _ _) rfl) ?_
          refine X.opw X.wN rfl (X.move (v := .int .i64 _) rfl) ?_
          refine X.opw X.wN rfl (X.add (c := ((i + 1 : Nat) : Int)) rfl rfl (by rw [X.w_i64 (by omega)]; omega)) ?_
          refine X.opw X.wN rfl (X.idxS (hs.keep hk) Try.underlying25 Try.sizeOf5 rfl rfl ⟨by omega, by omega⟩) ?_
          refine X.opw X.wN rfl (X.loadS Try.isAgg5 (hs.keep hk) hy rfl (fun _ h => by rw [h.1]; rfl)) ?_
          refine X.opP X.wN rfl rfl (X.eqI rfl rfl) (fun h42 => ?_) (fun h42 => ?_)
          · refine X.opw X.wN rfl (X.assign (v := .bool true) rfl) ?_
            refine X.opsEnd ?_
            refine X.condT rfl ?_
            refine X.seq ?_
            refine X.region ?_
            refine X.opw X.wN rfl (X.move rfl) ?_
            have q3 := hM.slF KB_flat 0 (fun _ _ => Nat.zero_le _)
            obtain ⟨A3, c3, rfl, hc3, hs3⟩ := q3
            refine X.opw X.wN rfl (X.str Try.underlying25 Try.underlying5 Try.underlying9 rfl KB_is rfl hs3) ?_
            refine X.opw X.wN rfl (X.move (v := .int .i64 _) rfl) ?_
            refine X.opw X.wN rfl (X.add rfl rfl (X.w_i64 (by omega))) ?_
            refine X.opw X.wN rfl (X.assign (v := .string _) rfl) ?_
            refine X.opw X.wN rfl (X.assign (v := .int .i64 _) rfl) ?_
            refine X.opw X.wN rfl (X.assign rfl) ?_
            refine X.opsEnd ?_
            refine X.ret3 (v1 := (.string _)) (v2 := (.int .i64 _)) (v3 := (.bool _)) Try.func48 Try.results48 rfl rfl rfl ?_
            first
            | exact ⟨by rw [symV_none (by rw [show l = [] from List.eq_nil_of_length_eq_zero (by omega)]; rfl)], hk⟩
            | exact ⟨by rw [symV_none (by rw [symR, if_neg (by omega)])], hk⟩
            | exact ⟨by rw [symV_none (by rw [symR, if_pos (by omega), ← hp, pSym_short (by rw [List.length_drop]; omega)]; rfl)], hk⟩
            | exact ⟨by rw [symV_none (by rw [symR, if_pos (by omega), ← hp, hd, pSym_0 (by omega), hd2]; dsimp only; rw [if_neg (by omega), if_neg (by omega)]; rfl)], hk⟩
            | (refine ⟨?_, hk⟩; rw [symV_some (b := (s, (x0 :: ys0).drop (i + 1 + 1))) (by rw [symR, if_pos (by omega), ← hp, hd, pSym_0 (by omega), hd2]; dsimp only; rw [if_pos (by omega)]; dsimp only [Option.map_some]; rw [List.append_nil])]; dsimp only; rw [show (((x0 :: ys0).length : Int) - (((x0 :: ys0).drop (i + 1 + 1)).length : Int)) = (i : Int) + 2 by rw [List.length_drop]; omega])
          · refine X.opw X.wN rfl (X.assign (v := .bool false) rfl) ?_
            refine X.opsEnd ?_
            refine X.condF rfl ?_
            refine X.seq ?_
            refine X.region ?_
            refine X.opw X.wN rfl (X.move (v := .slice _ _ _) rfl) ?_
            refine X.opw X.wN rfl (X.move (v := .int .i64 _) rfl) ?_
            refine X.opw X.wN rfl (X.add (c := ((i + 1 : Nat) : Int)) rfl rfl (by rw [X.w_i64 (by omega)]; omega)) ?_
            refine X.opw X.wN rfl (X.idxS (hs.keep hk) Try.underlying25 Try.sizeOf5 rfl rfl ⟨by omega, by omega⟩) ?_
            refine X.opw X.wN rfl (X.loadS Try.isAgg5 (hs.keep hk) hy rfl (fun _ h => by rw [h.1]; rfl)) ?_
            refine X.opP X.wN rfl rfl (X.eqI rfl rfl) (fun h53 => ?_) (fun h53 => ?_)
            · refine X.opw X.wN rfl (X.assign (v := .bool true) rfl) ?_
              refine X.opsEnd ?_
              refine X.condT rfl ?_
              refine X.seq ?_
              refine X.region ?_
              refine X.opw X.wN rfl (X.move rfl) ?_
              refine X.opE X.wN rfl (X.lit1B (y := 0) Try.underlying25 Try.sizeOf5 Try.zeroValue5 rfl) ?_
              rintro _ w4 ⟨rfl, hs4, hB4, hk4, hz4⟩
              refine X.opE X.wN rfl (X.appE (K := KB) (S := fun k => w.heap.size ≤ k) KB_flat Try.underlying25 E5 rfl rfl (hM.keep hk4) hs4 (by (try simp only [List.length_append, List.length_cons, List.length_nil, List.length_take, List.length_drop, List.length_map, List.length_range]); omega) (by intros; (try simp only [] at *); omega)) ?_
              rintro v5 w5 ⟨hM5, hx5⟩
              have hx5' := hx5.size
              refine X.opw X.wN rfl (X.assign rfl) ?_
              refine X.opsEnd ?_
              refine X.region ?_
              refine X.opw X.wN rfl (X.move (v := .int .i64 _) rfl) ?_
              refine X.opw X.wN rfl (X.add rfl rfl (X.w_i64 (by omega))) ?_
              refine X.opw X.wN rfl (X.assign (v := .int .i64 _) rfl) ?_
              refine X.opsEnd ?_
              refine X.inBlock ?_
              refine X.inBlock ?_
              refine X.region ?_
              refine X.opw X.wN rfl (X.move (v := .int .i64 _) rfl) ?_
              refine X.opw X.wN rfl (X.add rfl rfl (X.w_i64 (by omega))) ?_
              refine X.opw X.wN rfl (X.assign (v := .int .i64 _) rfl) ?_
              refine X.opsEnd ?_
              refine hback (i + 1 + 1, _, s ++ [0]) _ _ ⟨rfl, rfl, rfl, trivial⟩ ⟨by dsimp only; omega, by simp only [List.length_append, List.length_cons, List.length_nil]; omega, hM5, ?_, ((hk.trans hk4).step hx5 (by intros; (try simp only [] at *); omega))⟩ (by dsimp only; omega)
              dsimp only
              have hx0 : x = 0 := UInt8.toNat_inj.1 (by simp; omega)
              rw [← hp, hd, pSym_0 (by omega), hd2]
              dsimp only
              rw [if_neg (by omega), if_pos (by omega), map_map_cons, hx0]
            · refine X.opw X.wN rfl (X.assign (v := .bool false) rfl) ?_
              refine X.opsEnd ?_
              refine X.condF rfl ?_
              refine X.seq ?_
              refine X.region ?_
              refine X.opw X.wN rfl (X.assign rfl) ?_
              refine X.opw X.wN rfl (X.assign rfl) ?_
              refine X.opw X.wN rfl (X.assign rfl) ?_
              refine X.opsEnd ?_
              refine X.ret3 (v1 := (.string _)) (v2 := (.int .i64 _)) (v3 := (.bool _)) Try.func48 Try.results48 rfl rfl rfl ?_
              first
              | exact ⟨by rw [symV_none (by rw [show l = [] from List.eq_nil_of_length_eq_zero (by omega)]; rfl)], hk⟩
              | exact ⟨by rw [symV_none (by rw [symR, if_neg (by omega)])], hk⟩
              | exact ⟨by rw [symV_none (by rw [symR, if_pos (by omega), ← hp, pSym_short (by rw [List.length_drop]; omega)]; rfl)], hk⟩
              | exact ⟨by rw [symV_none (by rw [symR, if_pos (by omega), ← hp, hd, pSym_0 (by omega), hd2]; dsimp only; rw [if_neg (by omega), if_neg (by omega)]; rfl)], hk⟩
              | (refine ⟨?_, hk⟩; rw [symV_some (b := (s, (x0 :: ys0).drop (i + 1 + 1))) (by rw [symR, if_pos (by omega), ← hp, hd, pSym_0 (by omega), hd2]; dsimp only; rw [if_pos (by omega)]; dsimp only [Option.map_some]; rw [List.append_nil])]; dsimp only; rw [show (((x0 :: ys0).length : Int) - (((x0 :: ys0).drop (i + 1 + 1)).length : Int)) = (i : Int) + 2 by rw [List.length_drop]; omega])
      · refine X.opsEnd ?_
        refine X.condF rfl ?_
        refine X.exit rfl ?_
        refine X.seq ?_
        refine X.region ?_
        refine X.opw X.wN rfl (X.assign rfl) ?_
        refine X.opw X.wN rfl (X.assign rfl) ?_
        refine X.opw X.wN rfl (X.assign rfl) ?_
        refine X.opsEnd ?_
        refine X.ret3 (v1 := (.string _)) (v2 := (.int .i64 _)) (v3 := (.bool _)) Try.func48 Try.results48 rfl rfl rfl ?_
        first
        | exact ⟨by rw [symV_none (by rw [show l = [] from List.eq_nil_of_length_eq_zero (by omega)]; rfl)], hk⟩
        | exact ⟨by rw [symV_none (by rw [symR, if_neg (by omega)])], hk⟩
        | exact ⟨by rw [symV_none (by rw [symR, if_pos (by omega), ← hp, pSym_short (by rw [List.length_drop]; omega)]; rfl)], hk⟩
        | exact ⟨by rw [symV_none (by rw [symR, if_pos (by omega), ← hp, hd, pSym_0 (by omega), hd2]; dsimp only; rw [if_neg (by omega), if_neg (by omega)]; rfl)], hk⟩
        | (refine ⟨?_, hk⟩; rw [symV_some (b := (s, (x0 :: ys0).drop (i + 1 + 1))) (by rw [symR, if_pos (by omega), ← hp, hd, pSym_0 (by omega), hd2]; dsimp only; rw [if_pos (by omega)]; dsimp only [Option.map_some]; rw [List.append_nil])]; dsimp only; rw [show (((x0 :: ys0).length : Int) - (((x0 :: ys0).drop (i + 1 + 1)).length : Int)) = (i : Int) + 2 by rw [List.length_drop]; omega])
theorem pKeys_more : ∀ (n m : Nat) (xs : List UInt8), xs.length ≤ n → xs.length ≤ m → pKeys n xs = pKeys m xs := by
  intro n
  induction n with
  | zero =>
    intro m xs h _
    have : xs = [] := List.eq_nil_of_length_eq_zero (by omega)
    subst this
    cases m <;> rfl
  | succ n ih =>
    intro m xs h hm
    cases xs with
    | nil => cases m <;> rfl
    | cons c xs =>
      simp only [List.length_cons] at h hm
      obtain ⟨m', rfl⟩ : ∃ m', m = m' + 1 := ⟨m - 1, by omega⟩
      rw [pKeys, pKeys]
      cases hk : pKey (c :: xs) with
      | none => rfl
      | some b =>
        obtain ⟨v, ys⟩ := b
        have := pKey_lt hk
        simp only [List.length_cons] at this
        dsimp only at this ⊢
        rw [ih m' ys (by omega) (by omega)]
/-- All values, whatever the fuel. -/
def pAll (xs : List UInt8) : Option (List VAL) := pKeys xs.length xs
theorem pAll_cons {xs : List UInt8} {v : VAL} {ys : List UInt8} (h : pKey xs = some (v, ys)) : pAll xs = (pAll ys).map fun l => v :: l := by
  have hlt := pKey_lt h
  cases xs with
  | nil => cases h
  | cons c xs =>
    rw [pAll, List.length_cons, pKeys, h]
    dsimp only
    simp only [List.length_cons] at hlt
    rw [pAll, pKeys_more xs.length ys.length ys (by omega) (Nat.le_refl _)]
theorem pAll_none {xs : List UInt8} (hx : xs ≠ []) (h : pKey xs = none) : pAll xs = none := by
  cases xs with
  | nil => exact absurd rfl hx
  | cons c xs => rw [pAll, List.length_cons, pKeys, h]
theorem pKey_2 {l : List UInt8} (h : ¬ ∃ c ys, l = c :: ys ∧ c.toNat = 1 ∧ 8 ≤ ys.length) : pKey l = (symR l).map fun b => ((2, 0, ⟨b.1.toArray⟩), b.2) := by
  cases l with
  | nil => rfl
  | cons c ys =>
    rw [pKey, symR]
    by_cases h1 : c.toNat = 1
    · rw [if_pos h1, if_neg (fun h8 => h ⟨c, ys, rfl, h1, h8⟩), if_neg (by omega)]; rfl
    · rw [if_neg h1]
      by_cases h2 : c.toNat = 2
      · rw [if_pos h2, if_pos h2]
      · rw [if_neg h2, if_neg h2]; rfl
theorem pFrom_none {l : List UInt8} (h : pAll l = none) : pFrom l = none := by
  have e : pKeys l.length l = none := h
  rw [pFrom, e]
theorem pFrom_some {l : List UInt8} {s : List VAL} (h : pAll l = some s) : pFrom l = if isT s then some s else none := by
  have e : pKeys l.length l = some s := h
  rw [pFrom, e]
theorem sub_K (x : Nat) (h : x < 18446744073709551616) : IntKind.u64.wrap (((x : Nat) : Int) - 9223372036854775808) = (((x + 9223372036854775808) % 18446744073709551616 : Nat) : Int) := by
  rw [u64_wrap]; omega
theorem symR_len {l : List UInt8} {b : List UInt8 × List UInt8} (h : symR l = some b) : b.2.length < l.length ∧ b.1.length ≤ l.length ∧ ∃ k, b.2 = l.drop k ∧ k = l.length - b.2.length := by
  cases l with
  | nil => cases h
  | cons c xs =>
    rw [symR] at h
    split at h
    · have := pSym_lt xs.length xs (Nat.le_refl _) b h
      have hd : ∀ (n : Nat) (xs : List UInt8), xs.length ≤ n → ∀ b, pSym xs = some b → ∃ k, b.2 = xs.drop k := by
        intro n
        induction n with
        | zero =>
          intro xs hx b hb
          have : xs = [] := List.eq_nil_of_length_eq_zero (by omega)
          subst this; cases hb
        | succ n ih =>
          intro xs hx b hb
          cases xs with
          | nil => cases hb
          | cons c xs =>
            simp only [List.length_cons] at hx
            by_cases hc : c.toNat = 0
            · rw [pSym_0 hc] at hb
              cases xs with
              | nil => cases hb
              | cons d ys =>
                dsimp only at hb
                simp only [List.length_cons] at hx
                split at hb
                · cases hb; exact ⟨2, rfl⟩
                · split at hb
                  · obtain ⟨q, hq, rfl⟩ := Option.map_eq_some_iff.1 hb
                    obtain ⟨k, e⟩ := ih ys (by omega) q hq
                    exact ⟨k + 2, by dsimp only; rw [e]; rfl⟩
                  · cases hb
            · rw [pSym_1 hc] at hb
              obtain ⟨q, hq, rfl⟩ := Option.map_eq_some_iff.1 hb
              obtain ⟨k, e⟩ := ih xs (by omega) q hq
              exact ⟨k + 1, by dsimp only; rw [e]; rfl⟩
      obtain ⟨k, e⟩ := hd xs.length xs (Nat.le_refl _) b h
      refine ⟨by simp only [List.length_cons]; omega, by simp only [List.length_cons]; omega, (c :: xs).length - b.2.length, ?_, rfl⟩
      have hl : b.2.length = xs.length - k := by rw [e, List.length_drop]
      rcases Nat.lt_or_ge k xs.length with hk | hk
      · rw [show (c :: xs).length - b.2.length = k + 1 by simp only [List.length_cons]; omega, e]; rfl
      · rw [show (c :: xs).length - b.2.length = xs.length + 1 by simp only [List.length_cons]; omega, e, List.drop_of_length_le hk]
        simp
    · cases h
-- f30 "pedigree/pedigreeref03.FromKey" params [25] results [23, 3] -> [(ResultVar.tmp 2), (ResultVar.tmp 3)] 
set_option maxHeartbeats 4000000 in
set_option maxRecDepth 100000 in
theorem RFromKey_c {lo hi : Nat} {A : Option Addr} {n c : Nat} {l : List UInt8} (w : World) (hs : Sl KB lo hi w A n l) (hnc : n ≤ c) (hn : n ≤ 1000000) : Ret Try.prog 30 #[.slice A n c] w fun r w' => ∃ v, r = .tuple #[v, .int .i64 (if (pFrom l).isSome then 0 else 30)] ∧ Mine KV 75 (fun k => w.heap.size ≤ k) 0 0 w' v ((pFrom l).getD []) ∧ Keep w w' := by
  have hl := hs.len
  refine X.enter Try.func30 rfl Try.ntmps30 rfl ?_
  refine X.seq ?_
  refine X.region ?_
  refine X.opw X.wN rfl (X.assign rfl) ?_
  refine X.opw X.wN rfl (X.assign rfl) ?_
  refine X.opsEnd ?_
  refine X.seq ?_
  refine X.region ?_
  refine X.opw X.wN rfl (X.assign rfl) ?_
  refine X.opsEnd ?_
  refine X.seq ?_
  refine X.region ?_
  refine X.opw X.wN rfl (X.assign rfl) ?_
  refine X.opsEnd ?_
  refine X.seq ?_
  refine X.block ?_
  -- LOOP live: 0=b, 4=t*, 5=at*
  refine X.loopL (σ := Nat × Value × List VAL) (fun s => [(0, .slice A n c), (4, s.2.1), (5, .int .i64 (s.1 : Int))]) (fun s w' => s.1 ≤ n ∧ s.2.2.length ≤ s.1 ∧ (∀ u ∈ s.2.2, okV u) ∧ Mine KV 75 (fun k => w.heap.size ≤ k) 0 0 w' s.2.1 s.2.2 ∧ ((pAll (l.drop s.1)).map fun m => s.2.2 ++ m) = pAll l ∧ Keep w w') (fun s => n - s.1) (0, _, []) ⟨rfl, rfl, rfl, trivial⟩ ⟨by simp, by simp, by simp, (Mine.nil _ _ _ _ _ _), by simp, (Keep.refl _)⟩ ?_
  rintro ⟨i, v, s⟩ b wl ⟨hi0, hsl, hso, hM, hp, hk⟩ hback
  simp only at hi0 hsl hso hM hp
  have hk' := hk.size
  refine X.seq ?_
  refine X.seq ?_
  refine X.region ?_
  refine X.opw X.wN rfl (X.move (v := .int .i64 _) rfl) ?_
  refine X.opw X.wN rfl (X.move (v := .slice _ _ _) rfl) ?_
  refine X.opw X.wN rfl (X.lenSl Try.underlying25 rfl) ?_
  refine X.opP X.wN rfl rfl (X.lss rfl rfl) (fun h14 => ?_) (fun h14 => ?_)
  · obtain ⟨x, hx⟩ := getN i hl h14
    have hd := drop_at hx
    have hux := x.toNat_lt
    refine X.opsEnd ?_
    refine X.condT rfl ?_
    refine X.skip ?_
    refine X.block ?_
    refine X.seq ?_
    refine X.seq ?_
    refine X.region ?_
    refine X.opw X.wN rfl (X.move (v := .slice _ _ _) rfl) ?_
    refine X.opw X.wN rfl (X.move (v := .int .i64 _) rfl) ?_
    refine X.opw X.wN rfl (X.idxS (hs.keep hk) Try.underlying25 Try.sizeOf5 rfl rfl ⟨by omega, by omega⟩) ?_
    refine X.opw X.wN rfl (X.loadS Try.isAgg5 (hs.keep hk) hx rfl (fun _ h => by rw [h.1]; rfl)) ?_
    refine X.opP X.wN rfl rfl (X.eqI rfl rfl) (fun h19 => ?_) (fun h19 => ?_)
    · refine X.opw X.wN rfl (X.move (v := .bool true) rfl) ?_
      refine X.opw (X.wG rfl rfl rfl) rfl (X.move (v := .slice _ _ _) rfl) ?_
      refine X.opw (X.wG rfl rfl rfl) rfl (X.lenSl Try.underlying25 rfl) ?_
      refine X.opw (X.wG rfl rfl rfl) rfl (X.move (v := .int .i64 _) rfl) ?_
      refine X.opw (X.wG rfl rfl rfl) rfl (X.sub rfl rfl (X.w_i64 (by omega))) ?_
      refine X.opP (X.wG rfl rfl rfl) rfl rfl (X.geq rfl rfl) (fun h25 => ?_) (fun h25 => ?_)
      · obtain ⟨ys, hys⟩ : ∃ ys, l.drop (i + 1) = ys := ⟨_, rfl⟩
        have hyl : ys.length = n - (i + 1) := by rw [← hys, List.length_drop, hl]
        have hpk : pKey (l.drop i) = some ((1, (beN (ys.take 8) : Int) - 9223372036854775808, ⟨#[]⟩), ys.drop 8) := by rw [hd, hys, pKey, if_pos (by omega), if_pos (by omega)]
        rw [pAll_cons hpk] at hp
        have okI1 : okV (1, (beN (ys.take 8) : Int) - 9223372036854775808, ⟨#[]⟩) := ⟨by simp [okI], keyI_ok ys, by simp [ByteArray.size]⟩
        refine X.opw X.wN rfl (X.pickT (v := .bool true) rfl rfl) ?_
        refine X.opsEnd ?_
        refine X.condT rfl ?_
        refine X.seq ?_
        refine X.region ?_
        refine X.opw X.wN rfl (X.assign rfl) ?_
        refine X.opsEnd ?_
        refine X.seq ?_
        refine X.seq ?_
        refine X.region ?_
        refine X.opw X.wN rfl (X.assign rfl) ?_
        refine X.opsEnd ?_
        refine X.block ?_
        -- LOOP live: 0=b, 4=t, 5=at, 6=x*, 7=k*
        refine X.loopL (σ := Nat) (fun s => [(0, .slice A n c), (4, v), (5, .int .i64 (i : Int)), (6, .int .u64 ((beN ((ys.take 8).take s) : Nat) : Int)), (7, .int .i64 ((s : Int) + 1))]) (fun s w' => s ≤ 8 ∧ wl = w') (fun s => 8 - s) 0 ⟨rfl, rfl, rfl, rfl, rfl, trivial⟩ ⟨by simp, rfl⟩ ?_
        rintro j b2 _ ⟨hj, rfl⟩ hback2
        refine X.seq ?_
        refine X.seq ?_
        refine X.region ?_
        refine X.opw X.wN rfl (X.move (v := .int .i64 _) rfl) ?_
        refine X.opP X.wN rfl rfl (X.leq rfl rfl) (fun h28 => ?_) (fun h28 => ?_)
        · obtain ⟨y, hy⟩ := getN (i + (j + 1)) hl (by omega)
          have hyj : (ys.take 8)[j]? = some y := by rw [List.getElem?_take_of_lt (by omega), ← hys, List.getElem?_drop, ← hy]; congr 1; omega
          have hbd := be_bound (l := ys.take 8) (j := j) (by omega)
          have huy := y.toNat_lt
          refine X.opsEnd ?_
          refine X.condT rfl ?_
          refine X.skip ?_
          refine X.seq ?_
          refine X.block ?_
          refine X.region ?_
          refine X.opw X.wN rfl (X.move (v := .int .u64 _) rfl) ?_
          refine X.opw X.wN rfl (X.mul rfl rfl (X.w_u64 (by omega))) ?_
          refine X.opw X.wN rfl (X.move (v := .slice _ _ _) rfl) ?_
          refine X.opw X.wN rfl (X.move (v := .int .i64 _) rfl) ?_
          refine X.opw X.wN rfl (X.move (v := .int .i64 _) rfl) ?_
          refine X.opw X.wN rfl (X.add (c := ((i + (j + 1) : Nat) : Int)) rfl rfl (by rw [X.w_i64 (by omega)]; omega)) ?_
          refine X.opw X.wN rfl (X.idxS (hs.keep hk) Try.underlying25 Try.sizeOf5 rfl rfl ⟨by omega, by omega⟩) ?_
          refine X.opw X.wN rfl (X.loadS Try.isAgg5 (hs.keep hk) hy rfl (fun _ h => by rw [h.1]; rfl)) ?_
          refine X.opw X.wN rfl (X.cvI Try.underlying5 Try.underlying33 rfl (X.w_u64 (by omega))) ?_
          refine X.opw X.wN rfl (X.add (c := ((beN ((ys.take 8).take (j + 1)) : Nat) : Int)) rfl rfl (by rw [X.w_u64 (by omega), beN_step hyj]; omega)) ?_
          refine X.opw X.wN rfl (X.assign (v := .int .u64 _) rfl) ?_
          refine X.opsEnd ?_
          refine X.inBlock ?_
          refine X.region ?_
          refine X.opw X.wN rfl (X.move (v := .int .i64 _) rfl) ?_
          refine X.opw X.wN rfl (X.add rfl rfl (X.w_i64 (by omega))) ?_
          refine X.opw X.wN rfl (X.assign (v := .int .i64 _) rfl) ?_
          refine X.opsEnd ?_
          refine hback2 (j + 1) _ _ ⟨rfl, rfl, rfl, rfl, rfl, trivial⟩ ⟨by omega, rfl⟩ (by omega)
        · have hj8 : j = 8 := by omega
          subst hj8
          refine X.opsEnd ?_
          refine X.condF rfl ?_
          refine X.exit rfl ?_
          refine X.seq ?_
          refine X.region ?_
          refine X.opw X.wN rfl (X.move rfl) ?_
          refine X.opw X.wN rfl (X.move (v := .int .u64 _) rfl) ?_
          refine X.opw X.wN rfl (X.sub rfl rfl (sub_K _ (be_8 (l := ys.take 8)))) ?_
          refine X.opw X.wN rfl (X.cvI (c := (beN (ys.take 8) : Int) - 9223372036854775808) Try.underlying33 Try.underlying2 rfl (by have e := i64_K _ (be_8 (l := ys.take 8)); rw [e, List.take_take]; rfl)) ?_
          refine X.opw X.wN rfl (X.buildB (vs := [(0, .int .i64 1), (1, .int .i64 ((beN (ys.take 8) : Int) - 9223372036854775808))]) (cs := (encV (1, (beN (ys.take 8) : Int) - 9223372036854775808, ⟨#[]⟩)).toArray) rfl (by kernel_rfl)) ?_
          refine X.opE X.wN rfl (X.litKE (K := KV) (xs := [Operand.tmp 45]) (vs := [.agg (encV (1, (beN (ys.take 8) : Int) - 9223372036854775808, ⟨#[]⟩)).toArray]) (ys := [((1, (beN (ys.take 8) : Int) - 9223372036854775808, ⟨#[]⟩) : VAL)]) Try.underlying23 Try.sizeOf75 Try.zeroValue75 rfl rfl rfl rfl rfl (litV_ok okI1)) ?_
          rintro _ w1 ⟨rfl, hs1, hB1, hk1, hz1⟩
          refine X.opE X.wN rfl (X.appE (K := KV) (S := fun k => w.heap.size ≤ k) KV_flat Try.underlying23 EV rfl rfl (hM.keep hk1) hs1 (by (try simp only [List.length_append, List.length_cons, List.length_nil, List.length_take, List.length_drop, List.length_map, List.length_range]); omega) (by intros; (try simp only [] at *); omega)) ?_
          rintro v2 w2 ⟨hM2, hx2⟩
          have hx2' := hx2.size
          refine X.opw X.wN rfl (X.assign rfl) ?_
          refine X.opsEnd ?_
          refine X.seq ?_
          refine X.region ?_
          refine X.opw X.wN rfl (X.move (v := .int .i64 _) rfl) ?_
          refine X.opw X.wN rfl (X.add rfl rfl (X.w_i64 (by omega))) ?_
          refine X.opw X.wN rfl (X.assign (v := .int .i64 _) rfl) ?_
          refine X.opsEnd ?_
          refine X.exit rfl ?_
          refine hback (i + 9, _, s ++ [((1, (beN (ys.take 8) : Int) - 9223372036854775808, ⟨#[]⟩) : VAL)]) _ _ ⟨rfl, rfl, rfl, trivial⟩ ⟨by dsimp only; omega, by simp only [List.length_append, List.length_cons, List.length_nil]; omega, by intro u hu; simp only [List.mem_append, List.mem_singleton] at hu; rcases hu with hu | rfl; exact hso u hu; exact okI1, hM2, ?_, ((hk.trans hk1).step hx2 (by intros; (try simp only [] at *); omega))⟩ (by dsimp only; omega)
          dsimp only
          rw [← hp, keys_map, show l.drop (i + 9) = ys.drop 8 by rw [← hys, List.drop_drop]]
      · refine X.opw X.wN rfl (X.pickT (v := .bool false) rfl rfl) ?_
        refine X.opsEnd ?_
        refine X.condF rfl ?_
        refine X.skip ?_
        refine X.seq ?_
        refine X.region ?_
        refine X.opw X.wN rfl (X.move (v := .slice _ _ _) rfl) ?_
        refine X.opw X.wN rfl (X.move (v := .int .i64 _) rfl) ?_
        refine X.opw X.wN rfl (X.cutL Try.underlying25 Try.sizeOf5 rfl rfl (by omega)) ?_
        refine X.opE X.wN rfl (X.callE (Rsymbol_c _ ((hs.drop i c (by omega) (by omega)).keep hk) (by omega)) Try.call48 rfl rfl) ?_
        rintro _ w3 ⟨rfl, hk3⟩
        have hk3' := hk3.size
        refine X.opw X.wN rfl (X.move rfl) ?_
        refine X.opw X.wN rfl (X.extr rfl rfl) ?_
        refine X.opw X.wN rfl (X.extr rfl rfl) ?_
        refine X.opw X.wN rfl (X.extr rfl rfl) ?_
        refine X.opw X.wN rfl (X.assign (v := .string _) rfl) ?_
        refine X.opw X.wN rfl (X.assign (v := .int .i64 _) rfl) ?_
        refine X.opw X.wN rfl (X.assign (v := .bool _) rfl) ?_
        refine X.opsEnd ?_
        refine X.seq ?_
        refine X.seq ?_
        refine X.region ?_
        refine X.opw X.wN rfl (X.move (v := .bool _) rfl) ?_
        refine X.opw X.wN rfl (X.not_ rfl) ?_
        refine X.opsEnd ?_
        refine X.condB rfl (fun hc => ?_) (fun hc => ?_)
        · refine X.seq ?_
          refine X.region ?_
          refine X.opw X.wN rfl (X.assign rfl) ?_
          refine X.opw X.wN rfl (X.assign rfl) ?_
          refine X.opsEnd ?_
          refine X.ret2 (v2 := (.int .i64 _)) Try.func30 Try.results30 rfl rfl ?_
          first
          | (have e := pFrom_none (l := l) (by rw [← hp, pAll_none (by rw [hd]; simp) (by rw [pKey_2 (by rw [hd]; rintro ⟨c', ys', e, h1, h8⟩; cases e; rw [List.length_drop] at h8; omega), show symR (l.drop i) = none by simpa using hc]; rfl)]; rfl)
             exact ⟨_, by rw [e]; rfl, by rw [e]; exact (Mine.nil _ _ _ _ _ _), (hk.trans hk3)⟩)
          | (have e := pFrom_some hp; rw [if_neg (by simpa using hc)] at e
             exact ⟨_, by rw [e]; rfl, by rw [e]; exact (Mine.nil _ _ _ _ _ _), (hk.trans hk3)⟩)
          | (have e := pFrom_some hp; rw [if_pos hT] at e
             exact ⟨_, by rw [e]; rfl, by rw [e]; exact (Mine.nil _ _ _ _ _ _), (hk.trans hk3)⟩)
        · obtain ⟨b0, hb0⟩ : ∃ b0, symR (l.drop i) = some b0 := Option.isSome_iff_exists.1 (by simpa using hc)
          have hno : ¬ ∃ c' ys', l.drop i = c' :: ys' ∧ c'.toNat = 1 ∧ 8 ≤ ys'.length := by rw [hd]; rintro ⟨c', ys', e, h1, h8⟩; cases e; rw [List.length_drop] at h8; omega
          have hpk : pKey (l.drop i) = some ((2, 0, ⟨(symS (l.drop i)).toArray⟩), b0.2) := by rw [pKey_2 hno, symS, hb0]; rfl
          rw [pAll_cons hpk] at hp
          obtain ⟨hq0, hq1, kk, hq2, hq3⟩ := symR_len hb0
          have hdl : (l.drop i).length = n - i := by rw [List.length_drop, hl]
          have eN : symN (l.drop i) = (kk : Int) := by rw [symN, hb0]; dsimp only; omega
          have okS1 : okV (2, 0, ⟨(symS (l.drop i)).toArray⟩) := ⟨by simp [okI], by simp [okI], by rw [symS, hb0]; show b0.1.toArray.size ≤ _; simp; omega⟩
          refine X.skip ?_
          refine X.seq ?_
          refine X.region ?_
          refine X.opw X.wN rfl (X.move rfl) ?_
          refine X.opw X.wN rfl (X.move (v := .string _) rfl) ?_
          refine X.opw X.wN rfl (X.buildB (vs := [(0, .int .i64 2), (2, .string ⟨(symS (l.drop i)).toArray⟩)]) (cs := (encV (2, 0, ⟨(symS (l.drop i)).toArray⟩)).toArray) rfl (by kernel_rfl)) ?_
          refine X.opE X.wN rfl (X.litKE (K := KV) (xs := [Operand.tmp 62]) (vs := [.agg (encV (2, 0, ⟨(symS (l.drop i)).toArray⟩)).toArray]) (ys := [((2, 0, ⟨(symS (l.drop i)).toArray⟩) : VAL)]) Try.underlying23 Try.sizeOf75 Try.zeroValue75 rfl rfl rfl rfl rfl (litV_ok okS1)) ?_
          rintro _ w4 ⟨rfl, hs4, hB4, hk4, hz4⟩
          refine X.opE X.wN rfl (X.appE (K := KV) (S := fun k => w.heap.size ≤ k) KV_flat Try.underlying23 EV rfl rfl (hM.keep (hk3.trans hk4)) hs4 (by (try simp only [List.length_append, List.length_cons, List.length_nil, List.length_take, List.length_drop, List.length_map, List.length_range]); omega) (by intros; (try simp only [] at *); omega)) ?_
          rintro v5 w5 ⟨hM5, hx5⟩
          have hx5' := hx5.size
          refine X.opw X.wN rfl (X.assign rfl) ?_
          refine X.opsEnd ?_
          refine X.region ?_
          refine X.opw X.wN rfl (X.move (v := .int .i64 _) rfl) ?_
          refine X.opw X.wN rfl (X.move (v := .int .i64 _) rfl) ?_
          refine X.opw X.wN rfl (X.add (c := ((i + kk : Nat) : Int)) rfl rfl (by rw [eN, X.w_i64 (by omega)]; omega)) ?_
          refine X.opw X.wN rfl (X.assign (v := .int .i64 _) rfl) ?_
          refine X.opsEnd ?_
          refine X.inBlock ?_
          refine hback (i + kk, _, s ++ [((2, 0, ⟨(symS (l.drop i)).toArray⟩) : VAL)]) _ _ ⟨rfl, rfl, rfl, trivial⟩ ⟨by dsimp only; omega, by simp only [List.length_append, List.length_cons, List.length_nil]; omega, by intro u hu; simp only [List.mem_append, List.mem_singleton] at hu; rcases hu with hu | rfl; exact hso u hu; exact okS1, hM5, ?_, (((hk.trans hk3).trans hk4).step hx5 (by intros; (try simp only [] at *); omega))⟩ (by dsimp only; omega)
          dsimp only
          rw [← hp, keys_map, show l.drop (i + kk) = b0.2 by rw [hq2, List.drop_drop]]
    · refine X.opw X.wN rfl (X.move (v := .bool false) rfl) ?_
      refine X.opS rfl rfl rfl rfl rfl ?_
      refine X.opS rfl rfl rfl rfl rfl ?_
      refine X.opS rfl rfl rfl rfl rfl ?_
      refine X.opS rfl rfl rfl rfl rfl ?_
      refine X.opS rfl rfl rfl rfl rfl ?_
      refine X.opw X.wN rfl (X.pickF (v := .bool false) rfl rfl) ?_
      refine X.opsEnd ?_
      refine X.condF rfl ?_
      refine X.skip ?_
      refine X.seq ?_
      refine X.region ?_
      refine X.opw X.wN rfl (X.move (v := .slice _ _ _) rfl) ?_
      refine X.opw X.wN rfl (X.move (v := .int .i64 _) rfl) ?_
      refine X.opw X.wN rfl (X.cutL Try.underlying25 Try.sizeOf5 rfl rfl (by omega)) ?_
      refine X.opE X.wN rfl (X.callE (Rsymbol_c _ ((hs.drop i c (by omega) (by omega)).keep hk) (by omega)) Try.call48 rfl rfl) ?_
      rintro _ w6 ⟨rfl, hk6⟩
      have hk6' := hk6.size
      refine X.opw X.wN rfl (X.move rfl) ?_
      refine X.opw X.wN rfl (X.extr rfl rfl) ?_
      refine X.opw X.wN rfl (X.extr rfl rfl) ?_
      refine X.opw X.wN rfl (X.extr rfl rfl) ?_
      refine X.opw X.wN rfl (X.assign (v := .string _) rfl) ?_
      refine X.opw X.wN rfl (X.assign (v := .int .i64 _) rfl) ?_
      refine X.opw X.wN rfl (X.assign (v := .bool _) rfl) ?_
      refine X.opsEnd ?_
      refine X.seq ?_
      refine X.seq ?_
      refine X.region ?_
      refine X.opw X.wN rfl (X.move (v := .bool _) rfl) ?_
      refine X.opw X.wN rfl (X.not_ rfl) ?_
      refine X.opsEnd ?_
      refine X.condB rfl (fun hc => ?_) (fun hc => ?_)
      · refine X.seq ?_
        refine X.region ?_
        refine X.opw X.wN rfl (X.assign rfl) ?_
        refine X.opw X.wN rfl (X.assign rfl) ?_
        refine X.opsEnd ?_
        refine X.ret2 (v2 := (.int .i64 _)) Try.func30 Try.results30 rfl rfl ?_
        first
        | (have e := pFrom_none (l := l) (by rw [← hp, pAll_none (by rw [hd]; simp) (by rw [pKey_2 (by rw [hd]; rintro ⟨c', ys', e, h1, h8⟩; cases e; rw [List.length_drop] at h8; omega), show symR (l.drop i) = none by simpa using hc]; rfl)]; rfl)
           exact ⟨_, by rw [e]; rfl, by rw [e]; exact (Mine.nil _ _ _ _ _ _), (hk.trans hk6)⟩)
        | (have e := pFrom_some hp; rw [if_neg (by simpa using hc)] at e
           exact ⟨_, by rw [e]; rfl, by rw [e]; exact (Mine.nil _ _ _ _ _ _), (hk.trans hk6)⟩)
        | (have e := pFrom_some hp; rw [if_pos hT] at e
           exact ⟨_, by rw [e]; rfl, by rw [e]; exact (Mine.nil _ _ _ _ _ _), (hk.trans hk6)⟩)
      · obtain ⟨b0, hb0⟩ : ∃ b0, symR (l.drop i) = some b0 := Option.isSome_iff_exists.1 (by simpa using hc)
        have hno : ¬ ∃ c' ys', l.drop i = c' :: ys' ∧ c'.toNat = 1 ∧ 8 ≤ ys'.length := by rw [hd]; rintro ⟨c', ys', e, h1, h8⟩; cases e; rw [List.length_drop] at h8; omega
        have hpk : pKey (l.drop i) = some ((2, 0, ⟨(symS (l.drop i)).toArray⟩), b0.2) := by rw [pKey_2 hno, symS, hb0]; rfl
        rw [pAll_cons hpk] at hp
        obtain ⟨hq0, hq1, kk, hq2, hq3⟩ := symR_len hb0
        have hdl : (l.drop i).length = n - i := by rw [List.length_drop, hl]
        have eN : symN (l.drop i) = (kk : Int) := by rw [symN, hb0]; dsimp only; omega
        have okS1 : okV (2, 0, ⟨(symS (l.drop i)).toArray⟩) := ⟨by simp [okI], by simp [okI], by rw [symS, hb0]; show b0.1.toArray.size ≤ _; simp; omega⟩
        refine X.skip ?_
        refine X.seq ?_
        refine X.region ?_
        refine X.opw X.wN rfl (X.move rfl) ?_
        refine X.opw X.wN rfl (X.move (v := .string _) rfl) ?_
        refine X.opw X.wN rfl (X.buildB (vs := [(0, .int .i64 2), (2, .string ⟨(symS (l.drop i)).toArray⟩)]) (cs := (encV (2, 0, ⟨(symS (l.drop i)).toArray⟩)).toArray) rfl (by kernel_rfl)) ?_
        refine X.opE X.wN rfl (X.litKE (K := KV) (xs := [Operand.tmp 62]) (vs := [.agg (encV (2, 0, ⟨(symS (l.drop i)).toArray⟩)).toArray]) (ys := [((2, 0, ⟨(symS (l.drop i)).toArray⟩) : VAL)]) Try.underlying23 Try.sizeOf75 Try.zeroValue75 rfl rfl rfl rfl rfl (litV_ok okS1)) ?_
        rintro _ w7 ⟨rfl, hs7, hB7, hk7, hz7⟩
        refine X.opE X.wN rfl (X.appE (K := KV) (S := fun k => w.heap.size ≤ k) KV_flat Try.underlying23 EV rfl rfl (hM.keep (hk6.trans hk7)) hs7 (by (try simp only [List.length_append, List.length_cons, List.length_nil, List.length_take, List.length_drop, List.length_map, List.length_range]); omega) (by intros; (try simp only [] at *); omega)) ?_
        rintro v8 w8 ⟨hM8, hx8⟩
        have hx8' := hx8.size
        refine X.opw X.wN rfl (X.assign rfl) ?_
        refine X.opsEnd ?_
        refine X.region ?_
        refine X.opw X.wN rfl (X.move (v := .int .i64 _) rfl) ?_
        refine X.opw X.wN rfl (X.move (v := .int .i64 _) rfl) ?_
        refine X.opw X.wN rfl (X.add (c := ((i + kk : Nat) : Int)) rfl rfl (by rw [eN, X.w_i64 (by omega)]; omega)) ?_
        refine X.opw X.wN rfl (X.assign (v := .int .i64 _) rfl) ?_
        refine X.opsEnd ?_
        refine X.inBlock ?_
        refine hback (i + kk, _, s ++ [((2, 0, ⟨(symS (l.drop i)).toArray⟩) : VAL)]) _ _ ⟨rfl, rfl, rfl, trivial⟩ ⟨by dsimp only; omega, by simp only [List.length_append, List.length_cons, List.length_nil]; omega, by intro u hu; simp only [List.mem_append, List.mem_singleton] at hu; rcases hu with hu | rfl; exact hso u hu; exact okS1, hM8, ?_, (((hk.trans hk6).trans hk7).step hx8 (by intros; (try simp only [] at *); omega))⟩ (by dsimp only; omega)
        dsimp only
        rw [← hp, keys_map, show l.drop (i + kk) = b0.2 by rw [hq2, List.drop_drop]]
  · rw [show i = l.length by omega, List.drop_length, pAll, pKeys] at hp
    simp only [Option.map_some, List.append_nil] at hp
    have hp : pAll l = some s := hp.symm
    refine X.opsEnd ?_
    refine X.condF rfl ?_
    refine X.exit rfl ?_
    refine X.seq ?_
    refine X.seq ?_
    refine X.region ?_
    refine X.opw X.wN rfl (X.move rfl) ?_
    have q10 := hM.slF KV_flat 0 (fun _ _ => Nat.zero_le _)
    obtain ⟨A10, c10, rfl, hc10, hs10⟩ := q10
    refine X.opE X.wN rfl (X.callE (R03Is_c _ hs10) Try.call12 rfl rfl) ?_
    rintro _ w9 ⟨rfl, hk9⟩
    have hk9' := hk9.size
    refine X.opw X.wN rfl (X.not_ rfl) ?_
    refine X.opsEnd ?_
    refine X.condB rfl (fun hc => ?_) (fun hc => ?_)
    · refine X.seq ?_
      refine X.region ?_
      refine X.opw X.wN rfl (X.assign rfl) ?_
      refine X.opw X.wN rfl (X.assign rfl) ?_
      refine X.opsEnd ?_
      refine X.ret2 (v2 := (.int .i64 _)) Try.func30 Try.results30 rfl rfl ?_
      first
      | (have e := pFrom_none (l := l) (by rw [← hp, pAll_none (by rw [hd]; simp) (by rw [pKey_2 (by rw [hd]; rintro ⟨c', ys', e, h1, h8⟩; cases e; rw [List.length_drop] at h8; omega), show symR (l.drop i) = none by simpa using hc]; rfl)]; rfl)
         exact ⟨_, by rw [e]; rfl, by rw [e]; exact (Mine.nil _ _ _ _ _ _), (hk.trans hk9)⟩)
      | (have e := pFrom_some hp; rw [if_neg (by simpa using hc)] at e
         exact ⟨_, by rw [e]; rfl, by rw [e]; exact (Mine.nil _ _ _ _ _ _), (hk.trans hk9)⟩)
      | (have e := pFrom_some hp; rw [if_pos hT] at e
         exact ⟨_, by rw [e]; rfl, by rw [e]; exact (Mine.nil _ _ _ _ _ _), (hk.trans hk9)⟩)
    · have hT : isT s = true := by simpa using hc
      refine X.skip ?_
      refine X.seq ?_
      refine X.region ?_
      refine X.opw X.wN rfl (X.move rfl) ?_
      refine X.opw X.wN rfl (X.assign rfl) ?_
      refine X.opw X.wN rfl (X.assign rfl) ?_
      refine X.opsEnd ?_
      refine X.ret2 (v2 := (.int .i64 _)) Try.func30 Try.results30 rfl rfl ?_
      first
      | (have e := pFrom_none (l := l) (by rw [← hp, pAll_none (by rw [hd]; simp) (by rw [pKey_2 (by rw [hd]; rintro ⟨c', ys', e, h1, h8⟩; cases e; rw [List.length_drop] at h8; omega), show symR (l.drop i) = none by simpa using hc]; rfl)]; rfl)
         exact ⟨_, by rw [e]; rfl, by rw [e]; exact (hM.keep hk9), (hk.trans hk9)⟩)
      | (have e := pFrom_some hp; rw [if_neg (by simpa using hc)] at e
         exact ⟨_, by rw [e]; rfl, by rw [e]; exact (hM.keep hk9), (hk.trans hk9)⟩)
      | (have e := pFrom_some hp; rw [if_pos hT] at e
         exact ⟨_, by rw [e]; rfl, by rw [e]; exact (hM.keep hk9), (hk.trans hk9)⟩)
end Go.Proofs.Ytaclpphhidlgpaa
