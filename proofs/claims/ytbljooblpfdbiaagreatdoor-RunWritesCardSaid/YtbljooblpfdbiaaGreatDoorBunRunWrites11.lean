/- Texts that the proof of RunWrites stands on, part 11. -/
import Derived.Test.YtbljooblpfdbiaaGreatDoorProg
import Derived.Test.YtbljooblpfdbiaaGreatDoorBunRunWrites10
set_option linter.unusedSimpArgs false
set_option linter.unusedVariables false
namespace Go.Proofs.YtbljooblpfdbiaaGreatDoor
open Go Go.Proofs.YtbljooblpfdbiaaGreatDoor.X
def pVal : List UInt8 → Option (VAL × List UInt8)
  | [] => none
  | c :: xs => if c.toNat = 1 then (pInt xs).map fun b => ((1, b.1, ⟨#[]⟩), b.2) else if c.toNat = 2 then (pText 256 xs).map fun b => ((2, 0, ⟨b.1.toArray⟩), b.2) else none
def pVals : Nat → List UInt8 → Option (List VAL × List UInt8)
  | 0, xs => some ([], xs)
  | n + 1, xs => match pVal xs with
    | none => none
    | some (v, ys) => (pVals n ys).map fun b => (v :: b.1, b.2)
def pTup : List UInt8 → Option (List VAL × List UInt8)
  | [] => none
  | c :: xs => if 8 < c.toNat then none else pVals c.toNat xs
def pCnt (xs : List UInt8) : Option ((List VAL × Int) × List UInt8) :=
  match pTup xs with
  | none => none
  | some (l, ys) => (pInt ys).map fun b => ((l, b.1), b.2)
theorem pText_len {most : Int} {xs : List UInt8} {b : List UInt8 × List UInt8} (h : pText most xs = some b) : b.1.length ≤ 1048576 := by
  unfold pText at h
  split at h
  · cases h
  · split at h
    · cases h
    · cases h; simp only [List.length_take]; omega
set_option maxHeartbeats 4000000 in
set_option maxRecDepth 100000 in
theorem value_c (hi rb T : Nat) (xs : List UInt8) (w : World) (hr : Rd w hi rb T xs) : PP 166 #[.pointer (some ⟨rb, 0, none⟩)] w hi rb T (pVal xs) (fun a v _ => v = .agg (encV a).toArray ∧ okV a) := by
  have hrl := hr.lt
  have hhr := hr.T
  refine X.enter Tryz.func166 rfl Tryz.ntmps166 rfl ?_
  refine X.seq ?_
  refine X.region ?_
  refine X.opE X.wN rfl (X.allocE Tryz.zeroValue90 rfl) ?_
  rintro _ w1 ⟨rfl, hB1, hk1, hz1⟩
  refine X.opsEnd ?_
  refine X.seq ?_
  refine X.seq ?_
  refine X.region ?_
  refine X.opw X.wN rfl (X.move rfl) ?_
  refine X.opPR (some1_c hi rb T _ _ (hr.keep hk1)) X.wN rfl Tryz.call162 rfl (fun x2 hb2 => ?_) (fun hb2 => ?_)
  · rintro _ w2 ⟨⟨A2, c2, rfl, hcc2, hs2⟩, hR2, hx2⟩
    have hx2' := hx2.size
    obtain ⟨ys2, rfl⟩ := head_some hb2
    simp only [List.tail_cons] at hR2
    have hu2 := x2.toNat_lt
    refine X.opw X.wN rfl (X.idxS hs2 Tryz.underlying43 Tryz.sizeOf5 rfl rfl ⟨by omega, by omega⟩) ?_
    refine X.opw X.wN rfl (X.loadS Tryz.isAgg5 hs2 (j := 0) rfl rfl (fun _ h => by rw [h.1]; rfl)) ?_
    refine X.opsEnd ?_
    refine X.block ?_
    refine X.seq ?_
    refine X.region ?_
    refine X.opP X.wN rfl rfl (X.eqI rfl rfl) (fun h8 => ?_) (fun h8 => ?_)
    · refine X.opw X.wN rfl (X.assign (v := .bool true) rfl) ?_
      refine X.opsEnd ?_
      refine X.condT rfl ?_
      refine X.seq ?_
      refine X.region ?_
      refine X.opw X.wN rfl (X.move rfl) ?_
      refine X.opPR (whole_c hi rb T _ _ hR2) X.wN rfl Tryz.call136 rfl (fun b3 hb3 => ?_) (fun hb3 => ?_)
      · rintro _ w3 ⟨⟨rfl, hn3⟩, hR3, hx3⟩
        have hx3' := hx3.size
        obtain ⟨a3, ys3⟩ := b3
        simp only at hR3 hn3
        refine X.opw X.wN rfl (X.buildB (vs := [(0, .int .i64 1), (1, .int .i64 a3)]) (cs := (encV (1, a3, ⟨#[]⟩)).toArray) rfl (by kernel_rfl)) ?_
        refine X.opE X.wN rfl (X.storeNE Tryz.sizeOf90 ((hB1.ext hx2 zq28).ext hx3 zq28) rfl rfl rfl rfl (encV_one _)) ?_
        rintro _ w4 ⟨hB4, hx4, hz4⟩
        refine X.opsEnd ?_
        refine X.ret_unw (X.unwR1 Tryz.func166 Tryz.results166 (X.ResOk.cell rfl (X.lvN Tryz.isAgg90 Tryz.sizeOf90 hB4 rfl)) ?_)
        rw [pVal, if_pos (by omega), hb3]
        exact ⟨_, rfl, ⟨rfl, by simp [okI], hn3, by simp [ByteArray.size]⟩, (hR3.ext hx4 zq28), (Ext.andThen (Ext.andThen (Ext.andThen (Ext.andThen (Ext.refl (fun k => k = rb) _) hk1 zq23) hx2 zq23) hx3 zq23) hx4 zq23)⟩
      · rintro w3 hx3
        have hx3' := hx3.size
        refine X.unw_pan Tryz.func166 ?_
        first
        | (rw [head_none hb2, pVal]; exact ⟨rfl, (Ext.andThen (Ext.andThen (Ext.andThen (Ext.refl (fun k => k = rb) _) hk1 zq23) hx2 zq23) hx3 zq23)⟩)
        | (rw [pVal, if_pos (by omega), hb3]; exact ⟨rfl, (Ext.andThen (Ext.andThen (Ext.andThen (Ext.refl (fun k => k = rb) _) hk1 zq23) hx2 zq23) hx3 zq23)⟩)
        | (rw [pVal, if_neg (by omega), if_pos (by omega), hb5]; exact ⟨rfl, (Ext.andThen (Ext.andThen (Ext.andThen (Ext.refl (fun k => k = rb) _) hk1 zq23) hx2 zq23) hx3 zq23)⟩)
        | (rw [pVal, if_neg (by omega), if_neg (by omega)]; exact ⟨rfl, (Ext.andThen (Ext.andThen (Ext.andThen (Ext.refl (fun k => k = rb) _) hk1 zq23) hx2 zq23) hx3 zq23)⟩)
    · refine X.opw X.wN rfl (X.assign (v := .bool false) rfl) ?_
      refine X.opsEnd ?_
      refine X.condF rfl ?_
      refine X.seq ?_
      refine X.region ?_
      refine X.opP X.wN rfl rfl (X.eqI rfl rfl) (fun h13 => ?_) (fun h13 => ?_)
      · refine X.opw X.wN rfl (X.assign (v := .bool true) rfl) ?_
        refine X.opsEnd ?_
        refine X.condT rfl ?_
        refine X.seq ?_
        refine X.region ?_
        refine X.opw X.wN rfl (X.move rfl) ?_
        refine X.opPR (text_c 256 (by simp [okI]) hi rb T _ _ hR2) X.wN rfl Tryz.call129 rfl (fun b5 hb5 => ?_) (fun hb5 => ?_)
        · rintro v5 w5 ⟨hM5, hR5, hx5⟩
          have hx5' := hx5.size
          have hn5 := pText_len hb5
          obtain ⟨a5, ys5⟩ := b5
          simp only at hR5 hn5 hM5
          have q6 := hM5.slF KB_flat 0 (fun _ _ => Nat.zero_le _)
          obtain ⟨A6, c6, rfl, hc6, hs6⟩ := q6
          refine X.opw X.wN rfl (X.str Tryz.underlying43 Tryz.underlying5 Tryz.underlying9 rfl KB_is rfl hs6) ?_
          refine X.opw X.wN rfl (X.buildB (vs := [(0, .int .i64 2), (2, .string ⟨a5.toArray⟩)]) (cs := (encV (2, 0, ⟨a5.toArray⟩)).toArray) rfl (by kernel_rfl)) ?_
          refine X.opE X.wN rfl (X.storeNE Tryz.sizeOf90 ((hB1.ext hx2 zq28).ext hx5 zq28) rfl rfl rfl rfl (encV_one _)) ?_
          rintro _ w7 ⟨hB7, hx7, hz7⟩
          refine X.opsEnd ?_
          refine X.ret_unw (X.unwR1 Tryz.func166 Tryz.results166 (X.ResOk.cell rfl (X.lvN Tryz.isAgg90 Tryz.sizeOf90 hB7 rfl)) ?_)
          rw [pVal, if_neg (by omega), if_pos (by omega), hb5]
          exact ⟨_, rfl, ⟨rfl, by simp [okI], by simp [okI], by show a5.toArray.size ≤ _; simp; omega⟩, (hR5.ext hx7 zq28), (Ext.andThen (Ext.andThen (Ext.andThen (Ext.andThen (Ext.refl (fun k => k = rb) _) hk1 zq23) hx2 zq23) hx5 zq23) hx7 zq23)⟩
        · rintro w5 hx5
          have hx5' := hx5.size
          refine X.unw_pan Tryz.func166 ?_
          first
          | (rw [head_none hb2, pVal]; exact ⟨rfl, (Ext.andThen (Ext.andThen (Ext.andThen (Ext.refl (fun k => k = rb) _) hk1 zq23) hx2 zq23) hx5 zq23)⟩)
          | (rw [pVal, if_pos (by omega), hb3]; exact ⟨rfl, (Ext.andThen (Ext.andThen (Ext.andThen (Ext.refl (fun k => k = rb) _) hk1 zq23) hx2 zq23) hx5 zq23)⟩)
          | (rw [pVal, if_neg (by omega), if_pos (by omega), hb5]; exact ⟨rfl, (Ext.andThen (Ext.andThen (Ext.andThen (Ext.refl (fun k => k = rb) _) hk1 zq23) hx2 zq23) hx5 zq23)⟩)
          | (rw [pVal, if_neg (by omega), if_neg (by omega)]; exact ⟨rfl, (Ext.andThen (Ext.andThen (Ext.andThen (Ext.refl (fun k => k = rb) _) hk1 zq23) hx2 zq23) hx5 zq23)⟩)
      · refine X.opw X.wN rfl (X.assign (v := .bool false) rfl) ?_
        refine X.opsEnd ?_
        refine X.condF rfl ?_
        refine X.skip ?_
        refine X.inBlock ?_
        refine X.region ?_
        refine X.opw X.wN rfl (X.buildB (cs := #[]) rfl (by kernel_rfl)) ?_
        refine X.opw X.wN rfl (X.mkIface Tryz.underlying210 rfl rfl) ?_
        refine X.opPanic X.wN rfl ?_
        refine X.unw_pan Tryz.func166 ?_
        first
        | (rw [head_none hb2, pVal]; exact ⟨rfl, (Ext.andThen (Ext.andThen (Ext.refl (fun k => k = rb) _) hk1 zq23) hx2 zq23)⟩)
        | (rw [pVal, if_pos (by omega), hb3]; exact ⟨rfl, (Ext.andThen (Ext.andThen (Ext.refl (fun k => k = rb) _) hk1 zq23) hx2 zq23)⟩)
        | (rw [pVal, if_neg (by omega), if_pos (by omega), hb5]; exact ⟨rfl, (Ext.andThen (Ext.andThen (Ext.refl (fun k => k = rb) _) hk1 zq23) hx2 zq23)⟩)
        | (rw [pVal, if_neg (by omega), if_neg (by omega)]; exact ⟨rfl, (Ext.andThen (Ext.andThen (Ext.refl (fun k => k = rb) _) hk1 zq23) hx2 zq23)⟩)
  · rintro w2 hx2
    have hx2' := hx2.size
    refine X.unw_pan Tryz.func166 ?_
    first
    | (rw [head_none hb2, pVal]; exact ⟨rfl, (Ext.andThen (Ext.andThen (Ext.refl (fun k => k = rb) _) hk1 zq23) hx2 zq23)⟩)
    | (rw [pVal, if_pos (by omega), hb3]; exact ⟨rfl, (Ext.andThen (Ext.andThen (Ext.refl (fun k => k = rb) _) hk1 zq23) hx2 zq23)⟩)
    | (rw [pVal, if_neg (by omega), if_pos (by omega), hb5]; exact ⟨rfl, (Ext.andThen (Ext.andThen (Ext.refl (fun k => k = rb) _) hk1 zq23) hx2 zq23)⟩)
    | (rw [pVal, if_neg (by omega), if_neg (by omega)]; exact ⟨rfl, (Ext.andThen (Ext.andThen (Ext.refl (fun k => k = rb) _) hk1 zq23) hx2 zq23)⟩)
theorem litV_ok {K : World} {x : VAL} (h : okV x) : RepsV KV K [x] [.agg (encV x).toArray] := ⟨⟨encV x, rfl, rfl, h⟩, trivial⟩
set_option maxHeartbeats 4000000 in
set_option maxRecDepth 100000 in
theorem tuple_c (hi rb T : Nat) (xs : List UInt8) (w : World) (hr : Rd w hi rb T xs) : PP 135 #[.pointer (some ⟨rb, 0, none⟩)] w hi rb T (pTup xs) (fun a v w' => Mine KV 90 (fun k => w.heap.size ≤ k) 0 0 w' v a ∧ (∀ u ∈ a, okV u) ∧ a.length ≤ 8) := by
  have hrl := hr.lt
  have hhr := hr.T
  refine X.enter Tryz.func135 rfl Tryz.ntmps135 rfl ?_
  refine X.seq ?_
  refine X.region ?_
  refine X.opw X.wN rfl (X.assign rfl) ?_
  refine X.opsEnd ?_
  refine X.seq ?_
  refine X.region ?_
  refine X.opw X.wN rfl (X.move rfl) ?_
  refine X.opPR (some1_c hi rb T _ _ hr) X.wN rfl Tryz.call162 rfl (fun x1 hb1 => ?_) (fun hb1 => ?_)
  · rintro _ w1 ⟨⟨A1, c1, rfl, hcc1, hs1⟩, hR1, hx1⟩
    have hx1' := hx1.size
    obtain ⟨ys1, rfl⟩ := head_some hb1
    simp only [List.tail_cons] at hR1
    have hu1 := x1.toNat_lt
    refine X.opw X.wN rfl (X.idxS hs1 Tryz.underlying43 Tryz.sizeOf5 rfl rfl ⟨by omega, by omega⟩) ?_
    refine X.opw X.wN rfl (X.loadS Tryz.isAgg5 hs1 (j := 0) rfl rfl (fun _ h => by rw [h.1]; rfl)) ?_
    refine X.opw X.wN rfl (X.cvI Tryz.underlying5 Tryz.underlying3 rfl (X.w_i64 (by omega))) ?_
    refine X.opw X.wN rfl (X.assign (v := .int .i64 _) rfl) ?_
    refine X.opsEnd ?_
    refine X.seq ?_
    refine X.seq ?_
    refine X.region ?_
    refine X.opw X.wN rfl (X.move (v := .int .i64 _) rfl) ?_
    refine X.opP X.wN rfl rfl (X.gtr rfl rfl) (fun h11 => ?_) (fun h11 => ?_)
    · refine X.opsEnd ?_
      refine X.condT rfl ?_
      refine X.region ?_
      refine X.opw X.wN rfl (X.buildB (cs := #[]) rfl (by kernel_rfl)) ?_
      refine X.opw X.wN rfl (X.mkIface Tryz.underlying210 rfl rfl) ?_
      refine X.opPanic X.wN rfl ?_
      refine X.unw_pan Tryz.func135 ?_
      first
      | (rw [head_none hb1, pTup]; exact ⟨rfl, (Ext.andThen (Ext.refl (fun k => k = rb) _) hx1 zq23)⟩)
      | (rw [pTup, if_pos (by omega)]; exact ⟨rfl, (Ext.andThen (Ext.refl (fun k => k = rb) _) hx1 zq23)⟩)
      | (rw [pTup, if_neg (by omega), ← hp, hb2]; exact ⟨rfl, (Ext.andThen (Ext.refl (fun k => k = rb) _) hx1 zq23)⟩)
    · refine X.opsEnd ?_
      refine X.condF rfl ?_
      refine X.skip ?_
      refine X.seq ?_
      refine X.region ?_
      refine X.opw X.wN rfl (X.assign rfl) ?_
      refine X.opsEnd ?_
      refine X.seq ?_
      refine X.seq ?_
      refine X.region ?_
      refine X.opw X.wN rfl (X.move (v := .int .i64 _) rfl) ?_
      refine X.opw X.wN rfl (X.move rfl) ?_
      refine X.opsEnd ?_
      refine X.block ?_
      refine X.loopL (σ := Nat × Value × List VAL × List UInt8) (fun s => [(0, .pointer (some ⟨rb, 0, none⟩)), (4, s.2.1), (14, .int .i64 (x1.toNat : Int)), (15, .int .i64 (s.1 : Int))]) (fun s w' => s.1 ≤ x1.toNat ∧ s.2.2.1.length = s.1 ∧ (∀ u ∈ s.2.2.1, okV u) ∧ Mine KV 90 (fun k => w.heap.size ≤ k) 0 0 w' s.2.1 s.2.2.1 ∧ Rd w' hi rb T s.2.2.2 ∧ (pVals (x1.toNat - s.1) s.2.2.2).map (fun b => (s.2.2.1 ++ b.1, b.2)) = pVals x1.toNat ys1 ∧ Ext (fun k => k = rb) w w') (fun s => x1.toNat - s.1) (0, _, [], ys1) ⟨rfl, rfl, rfl, rfl, trivial⟩ ⟨Nat.zero_le _, rfl, by simp, (Mine.nil _ _ _ _ _ _), hR1, by simp, (Ext.andThen (Ext.refl (fun k => k = rb) _) hx1 zq23)⟩ ?_
      rintro ⟨i, v, l, ys⟩ b wl ⟨hi0, hll, hlo, hM, hR, hp, hk⟩ hback
      simp only at hi0 hll hlo hM hR hp
      have hk' := hk.size
      have hrl2 := hR.lt
      refine X.seq ?_
      refine X.region ?_
      refine X.opP X.wN rfl rfl (X.lss rfl rfl) (fun h16 => ?_) (fun h16 => ?_)
      · rw [show x1.toNat - i = (x1.toNat - (i + 1)) + 1 by omega, pVals] at hp
        refine X.opsEnd ?_
        refine X.seq ?_
        refine X.condT rfl ?_
        refine X.skip ?_
        refine X.seq ?_
        refine X.block ?_
        refine X.region ?_
        refine X.opw X.wN rfl (X.move rfl) ?_
        refine X.opw X.wN rfl (X.move rfl) ?_
        refine X.opPR (value_c hi rb T _ _ hR) X.wN rfl Tryz.call166 rfl (fun b2 hb2 => ?_) (fun hb2 => ?_)
        · rintro _ w2 ⟨⟨rfl, hn2⟩, hR2, hx2⟩
          have hx2' := hx2.size
          obtain ⟨a2, ys2⟩ := b2
          simp only at hR2 hn2
          refine X.opE X.wN rfl (X.litKE (K := KV) (xs := [Operand.tmp 19]) (vs := [.agg (encV a2).toArray]) (ys := [a2]) Tryz.underlying38 Tryz.sizeOf90 Tryz.zeroValue90 rfl rfl rfl rfl rfl (litV_ok hn2)) ?_
          rintro _ w3 ⟨rfl, hs3, hB3, hk3, hz3⟩
          refine X.opE X.wN rfl (X.appE (K := KV) (S := fun k => w.heap.size ≤ k) KV_flat Tryz.underlying38 EV rfl rfl ((hM.ext hx2 zq28 zq28).keep hk3) hs3 zq9 zq26) ?_
          rintro v4 w4 ⟨hM4, hx4⟩
          have hx4' := hx4.size
          refine X.opw X.wN rfl (X.assign rfl) ?_
          refine X.opsEnd ?_
          refine X.inBlock ?_
          refine X.region ?_
          refine X.opw X.wN rfl (X.add rfl rfl (X.w_i64 (by omega))) ?_
          refine X.opw X.wN rfl (X.move (v := .int .i64 _) rfl) ?_
          refine X.opsEnd ?_
          refine hback (i + 1, _, l ++ [a2], ys2) _ _ ⟨rfl, rfl, rfl, rfl, trivial⟩ ⟨by simp only []; omega, by simp only [List.length_append, List.length_cons, List.length_nil]; omega, by intro u hu; simp only [List.mem_append, List.mem_singleton] at hu; rcases hu with hu | rfl; exact hlo u hu; exact hn2, hM4, ((hR2.keep hk3).ext hx4 zq28), by rw [hb2] at hp; dsimp only at hp; rw [← hp, Option.map_map]; congr 1; funext b; simp, (Ext.andThen (Ext.andThen (Ext.andThen (Ext.andThen (Ext.refl (fun k => k = rb) _) hk zq23) hx2 zq23) hk3 zq23) hx4 zq23)⟩ (by simp only []; omega)
        · rintro w2 hx2
          have hx2' := hx2.size
          refine X.unw_pan Tryz.func135 ?_
          first
          | (rw [head_none hb1, pTup]; exact ⟨rfl, (Ext.andThen (Ext.andThen (Ext.refl (fun k => k = rb) _) hk zq23) hx2 zq23)⟩)
          | (rw [pTup, if_pos (by omega)]; exact ⟨rfl, (Ext.andThen (Ext.andThen (Ext.refl (fun k => k = rb) _) hk zq23) hx2 zq23)⟩)
          | (rw [pTup, if_neg (by omega), ← hp, hb2]; exact ⟨rfl, (Ext.andThen (Ext.andThen (Ext.refl (fun k => k = rb) _) hk zq23) hx2 zq23)⟩)
      · refine X.opsEnd ?_
        refine X.seq ?_
        refine X.condF rfl ?_
        refine X.exit rfl ?_
        refine X.seq ?_
        refine X.region ?_
        refine X.opw X.wN rfl (X.move rfl) ?_
        refine X.opw X.wN rfl (X.assign rfl) ?_
        refine X.opsEnd ?_
        refine X.ret1 Tryz.func135 Tryz.results135 rfl ?_
        rw [pTup, if_neg (by omega), ← hp, show x1.toNat - i = 0 by omega, pVals]
        exact ⟨_, rfl, ⟨by show Mine _ _ _ _ _ _ _ (l ++ []); rw [List.append_nil]; exact hM, by simpa using hlo, by simp; omega⟩, hR, (Ext.andThen (Ext.refl (fun k => k = rb) _) hk zq23)⟩
  · rintro w1 hx1
    have hx1' := hx1.size
    refine X.unw_pan Tryz.func135 ?_
    first
    | (rw [head_none hb1, pTup]; exact ⟨rfl, (Ext.andThen (Ext.refl (fun k => k = rb) _) hx1 zq23)⟩)
    | (rw [pTup, if_pos (by omega)]; exact ⟨rfl, (Ext.andThen (Ext.refl (fun k => k = rb) _) hx1 zq23)⟩)
    | (rw [pTup, if_neg (by omega), ← hp, hb2]; exact ⟨rfl, (Ext.andThen (Ext.refl (fun k => k = rb) _) hx1 zq23)⟩)
def pSym : List UInt8 → Option (List UInt8 × List UInt8)
  | [] => none
  | c :: xs => if c.toNat = 0 then match xs with
      | [] => none
      | d :: ys => if d.toNat = 1 then some ([], ys) else if d.toNat = 255 then (pSym ys).map fun b => (c :: b.1, b.2) else none
    else (pSym xs).map fun b => (c :: b.1, b.2)
theorem pSym_0 {c : UInt8} {xs : List UInt8} (h : c.toNat = 0) : pSym (c :: xs) = match xs with
      | [] => none
      | d :: ys => if d.toNat = 1 then some ([], ys) else if d.toNat = 255 then (pSym ys).map fun b => (c :: b.1, b.2) else none := by
  conv => lhs; rw [pSym.eq_def]
  exact if_pos h
theorem pSym_1 {c : UInt8} {xs : List UInt8} (h : ¬ c.toNat = 0) : pSym (c :: xs) = (pSym xs).map fun b => (c :: b.1, b.2) := by
  conv => lhs; rw [pSym.eq_def]
  exact if_neg h
theorem map_map_cons (o : Option (List UInt8 × List UInt8)) (s : List UInt8) (c : UInt8) : (o.map fun b => (s ++ [c] ++ b.1, b.2)) = ((o.map fun b => (c :: b.1, b.2)).map fun b => (s ++ b.1, b.2)) := by
  rw [Option.map_map]; congr 1; funext b; simp
set_option maxHeartbeats 4000000 in
set_option maxRecDepth 100000 in
theorem symbol_c (hi rb T : Nat) (xs : List UInt8) (w : World) (hr : Rd w hi rb T xs) : PP 164 #[.pointer (some ⟨rb, 0, none⟩)] w hi rb T (pSym xs) (fun a v _ => v = .string ⟨a.toArray⟩ ∧ a.length ≤ 1000000) := by
  have hrl := hr.lt
  have hhr := hr.T
  refine X.enter Tryz.func164 rfl Tryz.ntmps164 rfl ?_
  refine X.seq ?_
  refine X.region ?_
  refine X.opw X.wN rfl (X.assign rfl) ?_
  refine X.opsEnd ?_
  refine X.seq ?_
  refine X.region ?_
  refine X.opw X.wN rfl (X.assign rfl) ?_
  refine X.opsEnd ?_
  refine X.block ?_
  refine X.loopL (σ := Value × List UInt8 × List UInt8) (fun s => [(0, .pointer (some ⟨rb, 0, none⟩)), (3, s.1)]) (fun s w' => s.2.1.length + s.2.2.length ≤ T ∧ Mine KB 5 (fun k => w.heap.size ≤ k) 0 0 w' s.1 s.2.1 ∧ Rd w' hi rb T s.2.2 ∧ ((pSym s.2.2).map fun b => (s.2.1 ++ b.1, b.2)) = pSym xs ∧ Ext (fun k => k = rb) w w') (fun s => s.2.2.length) (_, [], xs) ⟨rfl, rfl, trivial⟩ ⟨by simp; omega, (Mine.nil _ _ _ _ _ _), hr, by simp, (Ext.refl (fun k => k = rb) _)⟩ ?_
  rintro ⟨v, s, l⟩ b wl ⟨hll, hM, hR, hp, hk⟩ hback
  simp only at hll hM hR hp
  have hk' := hk.size
  have hrl2 := hR.lt
  refine X.block ?_
  refine X.seq ?_
  refine X.region ?_
  refine X.opw X.wN rfl (X.move rfl) ?_
  refine X.opPR (some1_c hi rb T _ _ hR) X.wN rfl Tryz.call162 rfl (fun x1 hb1 => ?_) (fun hb1 => ?_)
  · rintro _ w1 ⟨⟨A1, c1, rfl, hcc1, hs1⟩, hR1, hx1⟩
    have hx1' := hx1.size
    obtain ⟨ys1, rfl⟩ := head_some hb1
    simp only [List.tail_cons] at hR1
    have hu1 := x1.toNat_lt
    refine X.opw X.wN rfl (X.idxS hs1 Tryz.underlying43 Tryz.sizeOf5 rfl rfl ⟨by omega, by omega⟩) ?_
    refine X.opw X.wN rfl (X.loadS Tryz.isAgg5 hs1 (j := 0) rfl rfl (fun _ h => by rw [h.1]; rfl)) ?_
    refine X.opw X.wN rfl (X.assign (v := .int .u8 _) rfl) ?_
    refine X.opsEnd ?_
    refine X.seq ?_
    refine X.seq ?_
    refine X.region ?_
    refine X.opw X.wN rfl (X.move (v := .int .u8 _) rfl) ?_
    refine X.opP X.wN rfl rfl (X.eqI rfl rfl) (fun h10 => ?_) (fun h10 => ?_)
    · refine X.opsEnd ?_
      refine X.condT rfl ?_
      refine X.seq ?_
      refine X.region ?_
      refine X.opw X.wN rfl (X.move rfl) ?_
      refine X.opPR (some1_c hi rb T _ _ hR1) X.wN rfl Tryz.call162 rfl (fun x2 hb2 => ?_) (fun hb2 => ?_)
      · rintro _ w2 ⟨⟨A2, c2, rfl, hcc2, hs2⟩, hR2, hx2⟩
        have hx2' := hx2.size
        obtain ⟨ys2, rfl⟩ := head_some hb2
        simp only [List.tail_cons] at hR2
        have hu2 := x2.toNat_lt
        refine X.opw X.wN rfl (X.idxS hs2 Tryz.underlying43 Tryz.sizeOf5 rfl rfl ⟨by omega, by omega⟩) ?_
        refine X.opw X.wN rfl (X.loadS Tryz.isAgg5 hs2 (j := 0) rfl rfl (fun _ h => by rw [h.1]; rfl)) ?_
        refine X.opsEnd ?_
        refine X.block ?_
        refine X.seq ?_
        refine X.region ?_
        refine X.opP X.wN rfl rfl (X.eqI rfl rfl) (fun h18 => ?_) (fun h18 => ?_)
        · refine X.opw X.wN rfl (X.assign (v := .bool true) rfl) ?_
          refine X.opsEnd ?_
          refine X.condT rfl ?_
          refine X.seq ?_
          refine X.region ?_
          refine X.opw X.wN rfl (X.move rfl) ?_
          have q3 := ((hM.ext hx1 zq28 zq28).ext hx2 zq28 zq28).slF KB_flat 0 (fun _ _ => Nat.zero_le _)
          obtain ⟨A3, c3, rfl, hc3, hs3⟩ := q3
          refine X.opw X.wN rfl (X.str Tryz.underlying43 Tryz.underlying5 Tryz.underlying9 rfl KB_is rfl hs3) ?_
          refine X.opw X.wN rfl (X.assign (v := .string _) rfl) ?_
          refine X.opsEnd ?_
          refine X.ret1 (v := (.string _)) Tryz.func164 Tryz.results164 rfl ?_
          rw [← hp, pSym_0 (by omega)]
          dsimp only
          rw [if_pos (by omega)]
          simp only [List.length_cons] at hll
          exact ⟨_, rfl, ⟨by dsimp only; rw [List.append_nil], by dsimp only; rw [List.append_nil]; omega⟩, hR2, (Ext.andThen (Ext.andThen (Ext.andThen (Ext.refl (fun k => k = rb) _) hk zq23) hx1 zq23) hx2 zq23)⟩
        · refine X.opw X.wN rfl (X.assign (v := .bool false) rfl) ?_
          refine X.opsEnd ?_
          refine X.condF rfl ?_
          refine X.seq ?_
          refine X.region ?_
          refine X.opP X.wN rfl rfl (X.eqI rfl rfl) (fun h22 => ?_) (fun h22 => ?_)
          · refine X.opw X.wN rfl (X.assign (v := .bool true) rfl) ?_
            refine X.opsEnd ?_
            refine X.condT rfl ?_
            refine X.skip ?_
            refine X.inBlock ?_
            refine X.region ?_
            refine X.opw X.wN rfl (X.move rfl) ?_
            refine X.opw X.wN rfl (X.move (v := .int .u8 _) rfl) ?_
            refine X.opE X.wN rfl (X.lit1B Tryz.underlying43 Tryz.sizeOf5 Tryz.zeroValue5 rfl) ?_
            rintro _ w4 ⟨rfl, hs4, hB4, hk4, hz4⟩
            refine X.opE X.wN rfl (X.appE (K := KB) (S := fun k => w.heap.size ≤ k) KB_flat Tryz.underlying43 E5 rfl rfl (((hM.ext hx1 zq28 zq28).ext hx2 zq28 zq28).keep hk4) hs4 zq9 zq26) ?_
            rintro v5 w5 ⟨hM5, hx5⟩
            have hx5' := hx5.size
            refine X.opw X.wN rfl (X.assign rfl) ?_
            refine X.opsEnd ?_
            refine X.inBlock ?_
            refine hback (_, s ++ [x1], ys2) _ _ ⟨rfl, rfl, trivial⟩ ⟨by simp only [List.length_append, List.length_cons, List.length_nil] at *; omega, hM5, ((hR2.keep hk4).ext hx5 zq28), by rw [← hp, pSym_0 (by omega)]; dsimp only; rw [if_neg (by omega), if_pos (by omega), map_map_cons], (Ext.andThen (Ext.andThen (Ext.andThen (Ext.andThen (Ext.andThen (Ext.refl (fun k => k = rb) _) hk zq23) hx1 zq23) hx2 zq23) hk4 zq23) hx5 zq23)⟩ (by simp only [List.length_cons]; omega)
          · refine X.opw X.wN rfl (X.assign (v := .bool false) rfl) ?_
            refine X.opsEnd ?_
            refine X.condF rfl ?_
            refine X.region ?_
            refine X.opw X.wN rfl (X.buildB (cs := #[]) rfl (by kernel_rfl)) ?_
            refine X.opw X.wN rfl (X.mkIface Tryz.underlying210 rfl rfl) ?_
            refine X.opPanic X.wN rfl ?_
            refine X.unw_pan Tryz.func164 ?_
            first
            | (rw [← hp, head_none hb1]; exact ⟨rfl, (Ext.andThen (Ext.andThen (Ext.andThen (Ext.refl (fun k => k = rb) _) hk zq23) hx1 zq23) hx2 zq23)⟩)
            | (rw [← hp, pSym_0 (by omega), head_none hb2]; exact ⟨rfl, (Ext.andThen (Ext.andThen (Ext.andThen (Ext.refl (fun k => k = rb) _) hk zq23) hx1 zq23) hx2 zq23)⟩)
            | (rw [← hp, pSym_0 (by omega)]; dsimp only; rw [if_neg (by omega), if_neg (by omega)]; exact ⟨rfl, (Ext.andThen (Ext.andThen (Ext.andThen (Ext.refl (fun k => k = rb) _) hk zq23) hx1 zq23) hx2 zq23)⟩)
      · rintro w2 hx2
        have hx2' := hx2.size
        refine X.unw_pan Tryz.func164 ?_
        first
        | (rw [← hp, head_none hb1]; exact ⟨rfl, (Ext.andThen (Ext.andThen (Ext.andThen (Ext.refl (fun k => k = rb) _) hk zq23) hx1 zq23) hx2 zq23)⟩)
        | (rw [← hp, pSym_0 (by omega), head_none hb2]; exact ⟨rfl, (Ext.andThen (Ext.andThen (Ext.andThen (Ext.refl (fun k => k = rb) _) hk zq23) hx1 zq23) hx2 zq23)⟩)
        | (rw [← hp, pSym_0 (by omega)]; dsimp only; rw [if_neg (by omega), if_neg (by omega)]; exact ⟨rfl, (Ext.andThen (Ext.andThen (Ext.andThen (Ext.refl (fun k => k = rb) _) hk zq23) hx1 zq23) hx2 zq23)⟩)
    · refine X.opsEnd ?_
      refine X.condF rfl ?_
      refine X.skip ?_
      refine X.region ?_
      refine X.opw X.wN rfl (X.move rfl) ?_
      refine X.opw X.wN rfl (X.move (v := .int .u8 _) rfl) ?_
      refine X.opE X.wN rfl (X.lit1B Tryz.underlying43 Tryz.sizeOf5 Tryz.zeroValue5 rfl) ?_
      rintro _ w6 ⟨rfl, hs6, hB6, hk6, hz6⟩
      refine X.opE X.wN rfl (X.appE (K := KB) (S := fun k => w.heap.size ≤ k) KB_flat Tryz.underlying43 E5 rfl rfl ((hM.ext hx1 zq28 zq28).keep hk6) hs6 zq9 zq26) ?_
      rintro v7 w7 ⟨hM7, hx7⟩
      have hx7' := hx7.size
      refine X.opw X.wN rfl (X.assign rfl) ?_
      refine X.opsEnd ?_
      refine X.inBlock ?_
      refine hback (_, s ++ [x1], ys1) _ _ ⟨rfl, rfl, trivial⟩ ⟨by simp only [List.length_append, List.length_cons, List.length_nil] at *; omega, hM7, ((hR1.keep hk6).ext hx7 zq28), by rw [← hp, pSym_1 (by omega), map_map_cons], (Ext.andThen (Ext.andThen (Ext.andThen (Ext.andThen (Ext.refl (fun k => k = rb) _) hk zq23) hx1 zq23) hk6 zq23) hx7 zq23)⟩ (by simp only [List.length_cons]; omega)
  · rintro w1 hx1
    have hx1' := hx1.size
    refine X.unw_pan Tryz.func164 ?_
    first
    | (rw [← hp, head_none hb1]; exact ⟨rfl, (Ext.andThen (Ext.andThen (Ext.refl (fun k => k = rb) _) hk zq23) hx1 zq23)⟩)
    | (rw [← hp, pSym_0 (by omega), head_none hb2]; exact ⟨rfl, (Ext.andThen (Ext.andThen (Ext.refl (fun k => k = rb) _) hk zq23) hx1 zq23)⟩)
    | (rw [← hp, pSym_0 (by omega)]; dsimp only; rw [if_neg (by omega), if_neg (by omega)]; exact ⟨rfl, (Ext.andThen (Ext.andThen (Ext.refl (fun k => k = rb) _) hk zq23) hx1 zq23)⟩)
end Go.Proofs.YtbljooblpfdbiaaGreatDoor
namespace Go.Proofs.YtbljooblpfdbiaaGreatDoor
open Go Go.Proofs.YtbljooblpfdbiaaGreatDoor.X
theorem some8_c (hi rb T : Nat) (xs : List UInt8) (w : World) (hr : Rd w hi rb T xs) :
    PRet Tryz.prog 162 #[.pointer (some ⟨rb, 0, none⟩), .int .i64 8] w FAULT (if 8 ≤ xs.length then some () else none)
      (fun _ v w' => (∃ A c, v = .slice A 8 c ∧ 8 ≤ c ∧ Sl KB 0 hi w' A 8 (xs.take 8)) ∧ Rd w' hi rb T (xs.drop 8) ∧ Ext (fun k => k = rb) w w') (fun w' => Ext (fun k => k = rb) w w') := by
  refine (some_c hi rb T xs 8 (by decide) w hr).mono fun o w' h => ?_
  by_cases h8 : 8 ≤ xs.length
  · rw [if_pos (by omega)] at h
    rw [if_pos h8]
    exact h
  · rw [if_neg (by omega)] at h
    rw [if_neg h8]
    exact h
def beN (l : List UInt8) : Nat := l.foldl (fun x c => x * 256 + c.toNat) 0
theorem beN_step {l : List UInt8} {j : Nat} {y : UInt8} (hy : l[j]? = some y) : beN (l.take (j + 1)) = beN (l.take j) * 256 + y.toNat := by
  rw [List.take_add_one, hy, beN, List.foldl_append]; rfl
theorem beN_lt : ∀ l : List UInt8, beN l < 256 ^ l.length := by
  intro l
  have key : ∀ (l : List UInt8) (x : Nat), l.foldl (fun x c => x * 256 + c.toNat) x < (x + 1) * 256 ^ l.length := by
    intro l
    induction l with
    | nil => intro x; simp
    | cons c l ih =>
      intro x
      have := ih (x * 256 + c.toNat)
      have hc := c.toNat_lt
      rw [List.foldl_cons, List.length_cons, Nat.pow_succ]
      refine Nat.lt_of_lt_of_le this ?_
      rw [Nat.mul_comm (256 ^ l.length) 256, ← Nat.mul_assoc]
      exact Nat.mul_le_mul_right _ (by omega)
  simpa [beN] using key l 0
theorem be_bound {l : List UInt8} {j : Nat} (hj : j ≤ 7) : beN (l.take j) < 72057594037927936 := by
  refine Nat.lt_of_lt_of_le (beN_lt (l.take j)) ?_
  have : 256 ^ (l.take j).length ≤ 256 ^ 7 := Nat.pow_le_pow_right (by decide) (by rw [List.length_take]; omega)
  exact Nat.le_trans this (by decide)
theorem be_8 {l : List UInt8} : beN (l.take 8) < 18446744073709551616 := by
  refine Nat.lt_of_lt_of_le (beN_lt (l.take 8)) ?_
  have : 256 ^ (l.take 8).length ≤ 256 ^ 8 := Nat.pow_le_pow_right (by decide) (by rw [List.length_take]; omega)
  exact Nat.le_trans this (by decide)
theorem shl_8 (x : Nat) (h : x < 72057594037927936) : IntKind.u64.wrap (((x : Nat) : Int) * 2 ^ (min (8 : Int).toNat IntKind.u64.bits)) = ((x * 256 : Nat) : Int) := by
  have e : ((x : Nat) : Int) * 2 ^ (min (8 : Int).toNat IntKind.u64.bits) = ((x * 256 : Nat) : Int) := by
    have : (2 : Int) ^ (min (8 : Int).toNat IntKind.u64.bits) = 256 := by decide
    rw [this]; omega
  rw [e]
  exact w_u64 (by omega)
theorem or_8 (x c : Nat) (hc : c < 256) (h : x < 72057594037927936) : IntKind.u64.wrap ((BitVec.ofInt IntKind.u64.bits ((x * 256 : Nat) : Int) ||| BitVec.ofInt IntKind.u64.bits ((c : Nat) : Int)).toNat : Int) = ((x * 256 + c : Nat) : Int) := by
  show IntKind.u64.wrap ((BitVec.ofInt 64 ((x * 256 : Nat) : Int) ||| BitVec.ofInt 64 ((c : Nat) : Int)).toNat : Int) = _
  have e : x * 256 ||| c = x * 256 + c := by
    rw [Nat.mul_comm, show (256 : Nat) = 2 ^ 8 by decide, ← Nat.two_pow_add_eq_or_of_lt (by omega)]
  rw [BitVec.ofInt_natCast, BitVec.ofInt_natCast, BitVec.toNat_or, BitVec.toNat_ofNat, BitVec.toNat_ofNat, Nat.mod_eq_of_lt (by omega), Nat.mod_eq_of_lt (by omega), e]
  exact w_u64 (by omega)
theorem xor_K (x : Nat) (h : x < 18446744073709551616) : IntKind.u64.wrap ((BitVec.ofInt IntKind.u64.bits ((x : Nat) : Int) ^^^ BitVec.ofInt IntKind.u64.bits 9223372036854775808).toNat : Int) = (((x + 9223372036854775808) % 18446744073709551616 : Nat) : Int) := by
  show IntKind.u64.wrap ((BitVec.ofInt 64 ((x : Nat) : Int) ^^^ 9223372036854775808#64).toNat : Int) = _
  rw [BitVec.ofInt_natCast, BitVec.toNat_xor, BitVec.toNat_ofNat, BitVec.toNat_ofNat, Nat.mod_eq_of_lt (by omega), Nat.mod_eq_of_lt (a := 9223372036854775808) (by decide), xor63 _ h]
  exact w_u64 (by omega)
theorem i64_K (x : Nat) (h : x < 18446744073709551616) : IntKind.i64.wrap (((x + 9223372036854775808) % 18446744073709551616 : Nat) : Int) = (x : Int) - 9223372036854775808 := by
  simp only [IntKind.wrap, IntKind.bits, IntKind.signed, Bool.true_and]
  split <;> simp_all <;> omega
def pKey : List UInt8 → Option (VAL × List UInt8)
  | [] => none
  | c :: xs => if c.toNat = 1 then (if 8 ≤ xs.length then some ((1, (beN (xs.take 8) : Int) - 9223372036854775808, ⟨#[]⟩), xs.drop 8) else none) else if c.toNat = 2 then (pSym xs).map fun b => ((2, 0, ⟨b.1.toArray⟩), b.2) else none
theorem keyI_ok (l : List UInt8) : okI ((beN (l.take 8) : Int) - 9223372036854775808) := by
  have := be_8 (l := l)
  unfold okI; omega
set_option maxHeartbeats 4000000 in
set_option maxRecDepth 100000 in
theorem keyed_c (hi rb T : Nat) (xs : List UInt8) (w : World) (hr : Rd w hi rb T xs) : PP 132 #[.pointer (some ⟨rb, 0, none⟩)] w hi rb T (pKey xs) (fun a v _ => v = .agg (encV a).toArray ∧ okV a) := by
  have hrl := hr.lt
  have hhr := hr.T
  refine X.enter Tryz.func132 rfl Tryz.ntmps132 rfl ?_
  refine X.seq ?_
  refine X.region ?_
  refine X.opE X.wN rfl (X.allocE Tryz.zeroValue90 rfl) ?_
  rintro _ w1 ⟨rfl, hB1, hk1, hz1⟩
  refine X.opsEnd ?_
  refine X.seq ?_
  refine X.region ?_
  refine X.opw X.wN rfl (X.move rfl) ?_
  refine X.opPR (some1_c hi rb T _ _ (hr.keep hk1)) X.wN rfl Tryz.call162 rfl (fun x2 hb2 => ?_) (fun hb2 => ?_)
  · rintro _ w2 ⟨⟨A2, c2, rfl, hcc2, hs2⟩, hR2, hx2⟩
    have hx2' := hx2.size
    obtain ⟨ys2, rfl⟩ := head_some hb2
    simp only [List.tail_cons] at hR2
    have hu2 := x2.toNat_lt
    refine X.opw X.wN rfl (X.idxS hs2 Tryz.underlying43 Tryz.sizeOf5 rfl rfl ⟨by omega, by omega⟩) ?_
    refine X.opw X.wN rfl (X.loadS Tryz.isAgg5 hs2 (j := 0) rfl rfl (fun _ h => by rw [h.1]; rfl)) ?_
    refine X.opsEnd ?_
    refine X.block ?_
    refine X.seq ?_
    refine X.region ?_
    refine X.opP X.wN rfl rfl (X.eqI rfl rfl) (fun h13 => ?_) (fun h13 => ?_)
    · refine X.opw X.wN rfl (X.assign (v := .bool true) rfl) ?_
      refine X.opsEnd ?_
      refine X.condT rfl ?_
      refine X.seq ?_
      refine X.region ?_
      refine X.opw X.wN rfl (X.assign rfl) ?_
      refine X.opsEnd ?_
      refine X.seq ?_
      refine X.seq ?_
      refine X.region ?_
      refine X.opw X.wN rfl (X.move rfl) ?_
      refine X.opPR (some8_c hi rb T _ _ hR2) X.wN rfl Tryz.call162 rfl (fun u3 hb3 => ?_) (fun hb3 => ?_)
      · rintro _ w3 ⟨⟨A3, c3, rfl, hcc3, hs3⟩, hR3, hx3⟩
        have hx3' := hx3.size
        have h8 : 8 ≤ ys2.length := by
          by_cases h : 8 ≤ ys2.length
          · exact h
          · rw [if_neg h] at hb3; cases hb3
        refine X.opw X.wN rfl (X.lenSl Tryz.underlying43 rfl) ?_
        refine X.opw X.wN rfl (X.move rfl) ?_
        refine X.opsEnd ?_
        refine X.block ?_
        refine X.loopL (σ := Nat) (fun s => [(2, .pointer (some ⟨w.heap.size, 0, none⟩)), (3, .int .u64 ((beN ((ys2.take 8).take s) : Nat) : Int)), (15, .slice A3 8 c3), (16, .int .i64 8), (17, .int .i64 (s : Int))]) (fun s w' => s ≤ 8 ∧ w3 = w') (fun s => 8 - s) 0 ⟨rfl, rfl, rfl, rfl, rfl, trivial⟩ ⟨by simp, rfl⟩ ?_
        rintro j b _ ⟨hj, rfl⟩ hback
        refine X.seq ?_
        refine X.region ?_
        refine X.opP X.wN rfl rfl (X.lss rfl rfl) (fun h18 => ?_) (fun h18 => ?_)
        · obtain ⟨y, hy⟩ := getN j hs3.len h18
          have hbd := be_bound (l := ys2.take 8) (j := j) (by omega)
          have huy := y.toNat_lt
          refine X.opsEnd ?_
          refine X.seq ?_
          refine X.condT rfl ?_
          refine X.skip ?_
          refine X.seq ?_
          refine X.block ?_
          refine X.seq ?_
          refine X.region ?_
          refine X.opw X.wN rfl (X.idxS hs3 Tryz.underlying43 Tryz.sizeOf5 rfl rfl ⟨by omega, by omega⟩) ?_
          refine X.opw X.wN rfl (X.loadS Tryz.isAgg5 hs3 hy rfl (fun _ h => by rw [h.1]; rfl)) ?_
          refine X.opw X.wN rfl (X.assign (v := .int .u8 _) rfl) ?_
          refine X.opsEnd ?_
          refine X.region ?_
          refine X.opw X.wN rfl (X.move (v := .int .u64 _) rfl) ?_
          refine X.opw X.wN rfl (X.shl rfl rfl (by decide) (shl_8 _ hbd)) ?_
          refine X.opw X.wN rfl (X.move (v := .int .u8 _) rfl) ?_
          refine X.opw X.wN rfl (X.cvI Tryz.underlying5 Tryz.underlying119 rfl (X.w_u64 (by omega))) ?_
          refine X.opw X.wN rfl (X.or_ (c := ((beN ((ys2.take 8).take (j + 1)) : Nat) : Int)) rfl rfl (by rw [beN_step hy]; exact or_8 _ _ huy hbd)) ?_
          refine X.opw X.wN rfl (X.assign (v := .int .u64 _) rfl) ?_
          refine X.opsEnd ?_
          refine X.inBlock ?_
          refine X.region ?_
          refine X.opw X.wN rfl (X.add rfl rfl (X.w_i64 (by omega))) ?_
          refine X.opw X.wN rfl (X.move (v := .int .i64 _) rfl) ?_
          refine X.opsEnd ?_
          refine hback (j + 1) _ _ ⟨rfl, rfl, rfl, rfl, rfl, trivial⟩ ⟨by omega, rfl⟩ (by omega)
        · have hj8 : j = 8 := by omega
          subst hj8
          have hb8 := be_8 (l := ys2.take 8)
          rw [List.take_take] at hb8
          refine X.opsEnd ?_
          refine X.seq ?_
          refine X.condF rfl ?_
          refine X.exit rfl ?_
          refine X.seq ?_
          refine X.region ?_
          refine X.opw X.wN rfl (X.move (v := .int .u64 _) rfl) ?_
          refine X.opw X.wN rfl (X.xor_ rfl rfl (xor_K _ (be_8 (l := ys2.take 8)))) ?_
          refine X.opw X.wN rfl (X.cvI (c := (beN (ys2.take 8) : Int) - 9223372036854775808) Tryz.underlying119 Tryz.underlying2 rfl (by have e := i64_K _ (be_8 (l := ys2.take 8)); rw [e, List.take_take]; rfl)) ?_
          refine X.opw X.wN rfl (X.buildB (vs := [(0, .int .i64 1), (1, .int .i64 ((beN (ys2.take 8) : Int) - 9223372036854775808))]) (cs := (encV (1, (beN (ys2.take 8) : Int) - 9223372036854775808, ⟨#[]⟩)).toArray) rfl (by kernel_rfl)) ?_
          refine X.opE X.wN rfl (X.storeNE Tryz.sizeOf90 ((hB1.ext hx2 zq28).ext hx3 zq28) rfl rfl rfl rfl (encV_one _)) ?_
          rintro _ w4 ⟨hB4, hx4, hz4⟩
          refine X.opsEnd ?_
          refine X.ret_unw (X.unwR1 Tryz.func132 Tryz.results132 (X.ResOk.cell rfl (X.lvN Tryz.isAgg90 Tryz.sizeOf90 hB4 rfl)) ?_)
          rw [pKey, if_pos (by omega), if_pos h8]
          exact ⟨_, rfl, ⟨rfl, by simp [okI], keyI_ok ys2, by simp [ByteArray.size]⟩, (hR3.ext hx4 zq28), (Ext.andThen (Ext.andThen (Ext.andThen (Ext.andThen (Ext.refl (fun k => k = rb) _) hk1 zq23) hx2 zq23) hx3 zq23) hx4 zq23)⟩
      · rintro w3 hx3
        have hx3' := hx3.size
        refine X.unw_pan Tryz.func132 ?_
        first
        | (rw [head_none hb2, pKey]; exact ⟨rfl, (Ext.andThen (Ext.andThen (Ext.andThen (Ext.refl (fun k => k = rb) _) hk1 zq23) hx2 zq23) hx3 zq23)⟩)
        | (rw [pKey, if_pos (by omega), if_neg (by intro h; rw [if_pos h] at hb3; cases hb3)]; exact ⟨rfl, (Ext.andThen (Ext.andThen (Ext.andThen (Ext.refl (fun k => k = rb) _) hk1 zq23) hx2 zq23) hx3 zq23)⟩)
        | (rw [pKey, if_neg (by omega), if_pos (by omega), hb5]; exact ⟨rfl, (Ext.andThen (Ext.andThen (Ext.andThen (Ext.refl (fun k => k = rb) _) hk1 zq23) hx2 zq23) hx3 zq23)⟩)
        | (rw [pKey, if_neg (by omega), if_neg (by omega)]; exact ⟨rfl, (Ext.andThen (Ext.andThen (Ext.andThen (Ext.refl (fun k => k = rb) _) hk1 zq23) hx2 zq23) hx3 zq23)⟩)
    · refine X.opw X.wN rfl (X.assign (v := .bool false) rfl) ?_
      refine X.opsEnd ?_
      refine X.condF rfl ?_
      refine X.seq ?_
      refine X.region ?_
      refine X.opP X.wN rfl rfl (X.eqI rfl rfl) (fun h32 => ?_) (fun h32 => ?_)
      · refine X.opw X.wN rfl (X.assign (v := .bool true) rfl) ?_
        refine X.opsEnd ?_
        refine X.condT rfl ?_
        refine X.seq ?_
        refine X.region ?_
        refine X.opw X.wN rfl (X.move rfl) ?_
        refine X.opPR (symbol_c hi rb T _ _ hR2) X.wN rfl Tryz.call164 rfl (fun b5 hb5 => ?_) (fun hb5 => ?_)
        · rintro _ w5 ⟨⟨rfl, hn5⟩, hR5, hx5⟩
          have hx5' := hx5.size
          obtain ⟨a5, ys5⟩ := b5
          simp only at hR5 hn5
          refine X.opw X.wN rfl (X.buildB (vs := [(0, .int .i64 2), (2, .string ⟨a5.toArray⟩)]) (cs := (encV (2, 0, ⟨a5.toArray⟩)).toArray) rfl (by kernel_rfl)) ?_
          refine X.opE X.wN rfl (X.storeNE Tryz.sizeOf90 ((hB1.ext hx2 zq28).ext hx5 zq28) rfl rfl rfl rfl (encV_one _)) ?_
          rintro _ w6 ⟨hB6, hx6, hz6⟩
          refine X.opsEnd ?_
          refine X.ret_unw (X.unwR1 Tryz.func132 Tryz.results132 (X.ResOk.cell rfl (X.lvN Tryz.isAgg90 Tryz.sizeOf90 hB6 rfl)) ?_)
          rw [pKey, if_neg (by omega), if_pos (by omega), hb5]
          exact ⟨_, rfl, ⟨rfl, by simp [okI], by simp [okI], by show a5.toArray.size ≤ _; simp; omega⟩, (hR5.ext hx6 zq28), (Ext.andThen (Ext.andThen (Ext.andThen (Ext.andThen (Ext.refl (fun k => k = rb) _) hk1 zq23) hx2 zq23) hx5 zq23) hx6 zq23)⟩
        · rintro w5 hx5
          have hx5' := hx5.size
          refine X.unw_pan Tryz.func132 ?_
          first
          | (rw [head_none hb2, pKey]; exact ⟨rfl, (Ext.andThen (Ext.andThen (Ext.andThen (Ext.refl (fun k => k = rb) _) hk1 zq23) hx2 zq23) hx5 zq23)⟩)
          | (rw [pKey, if_pos (by omega), if_neg (by intro h; rw [if_pos h] at hb3; cases hb3)]; exact ⟨rfl, (Ext.andThen (Ext.andThen (Ext.andThen (Ext.refl (fun k => k = rb) _) hk1 zq23) hx2 zq23) hx5 zq23)⟩)
          | (rw [pKey, if_neg (by omega), if_pos (by omega), hb5]; exact ⟨rfl, (Ext.andThen (Ext.andThen (Ext.andThen (Ext.refl (fun k => k = rb) _) hk1 zq23) hx2 zq23) hx5 zq23)⟩)
          | (rw [pKey, if_neg (by omega), if_neg (by omega)]; exact ⟨rfl, (Ext.andThen (Ext.andThen (Ext.andThen (Ext.refl (fun k => k = rb) _) hk1 zq23) hx2 zq23) hx5 zq23)⟩)
      · refine X.opw X.wN rfl (X.assign (v := .bool false) rfl) ?_
        refine X.opsEnd ?_
        refine X.condF rfl ?_
        refine X.region ?_
        refine X.opw X.wN rfl (X.buildB (cs := #[]) rfl (by kernel_rfl)) ?_
        refine X.opw X.wN rfl (X.mkIface Tryz.underlying210 rfl rfl) ?_
        refine X.opPanic X.wN rfl ?_
        refine X.unw_pan Tryz.func132 ?_
        first
        | (rw [head_none hb2, pKey]; exact ⟨rfl, (Ext.andThen (Ext.andThen (Ext.refl (fun k => k = rb) _) hk1 zq23) hx2 zq23)⟩)
        | (rw [pKey, if_pos (by omega), if_neg (by intro h; rw [if_pos h] at hb3; cases hb3)]; exact ⟨rfl, (Ext.andThen (Ext.andThen (Ext.refl (fun k => k = rb) _) hk1 zq23) hx2 zq23)⟩)
        | (rw [pKey, if_neg (by omega), if_pos (by omega), hb5]; exact ⟨rfl, (Ext.andThen (Ext.andThen (Ext.refl (fun k => k = rb) _) hk1 zq23) hx2 zq23)⟩)
        | (rw [pKey, if_neg (by omega), if_neg (by omega)]; exact ⟨rfl, (Ext.andThen (Ext.andThen (Ext.refl (fun k => k = rb) _) hk1 zq23) hx2 zq23)⟩)
  · rintro w2 hx2
    have hx2' := hx2.size
    refine X.unw_pan Tryz.func132 ?_
    first
    | (rw [head_none hb2, pKey]; exact ⟨rfl, (Ext.andThen (Ext.andThen (Ext.refl (fun k => k = rb) _) hk1 zq23) hx2 zq23)⟩)
    | (rw [pKey, if_pos (by omega), if_neg (by intro h; rw [if_pos h] at hb3; cases hb3)]; exact ⟨rfl, (Ext.andThen (Ext.andThen (Ext.refl (fun k => k = rb) _) hk1 zq23) hx2 zq23)⟩)
    | (rw [pKey, if_neg (by omega), if_pos (by omega), hb5]; exact ⟨rfl, (Ext.andThen (Ext.andThen (Ext.refl (fun k => k = rb) _) hk1 zq23) hx2 zq23)⟩)
    | (rw [pKey, if_neg (by omega), if_neg (by omega)]; exact ⟨rfl, (Ext.andThen (Ext.andThen (Ext.refl (fun k => k = rb) _) hk1 zq23) hx2 zq23)⟩)
def pKeys : Nat → List UInt8 → Option (List VAL)
  | _, [] => some []
  | 0, _ :: _ => none
  | n + 1, c :: xs => match pKey (c :: xs) with
    | none => none
    | some (v, ys) => (pKeys n ys).map fun l => v :: l
def pFrom (xs : List UInt8) : Option (List VAL) :=
  match pKeys xs.length xs with
  | none => none
  | some l => if isT l then some l else none
theorem pSym_lt : ∀ (n : Nat) (xs : List UInt8), xs.length ≤ n → ∀ b, pSym xs = some b → b.2.length < xs.length ∧ b.1.length ≤ xs.length := by
  intro n
  induction n with
  | zero =>
    intro xs h b hb
    have : xs = [] := List.eq_nil_of_length_eq_zero (by omega)
    subst this; cases hb
  | succ n ih =>
    intro xs h b hb
    cases xs with
    | nil => cases hb
    | cons c xs =>
      simp only [List.length_cons] at *
      by_cases hc : c.toNat = 0
      · rw [pSym_0 hc] at hb
        cases xs with
        | nil => cases hb
        | cons d ys =>
          dsimp only at hb
          simp only [List.length_cons] at *
          split at hb
          · cases hb; simp only [List.length_nil]; omega
          · split at hb
            · obtain ⟨q, hq, rfl⟩ := Option.map_eq_some_iff.1 hb
              have := ih ys (by omega) q hq
              simp only [List.length_cons]; omega
            · cases hb
      · rw [pSym_1 hc] at hb
        obtain ⟨q, hq, rfl⟩ := Option.map_eq_some_iff.1 hb
        have := ih xs (by omega) q hq
        simp only [List.length_cons]; omega
theorem pKey_lt {xs : List UInt8} {b : VAL × List UInt8} (h : pKey xs = some b) : b.2.length < xs.length := by
  cases xs with
  | nil => cases h
  | cons c xs =>
    rw [pKey] at h
    simp only [List.length_cons]
    split at h
    · split at h
      · cases h; simp only [List.length_drop]; omega
      · cases h
    · split at h
      · obtain ⟨q, hq, rfl⟩ := Option.map_eq_some_iff.1 h
        have := (pSym_lt xs.length xs (Nat.le_refl _) q hq).1
        dsimp only; omega
      · cases h
theorem keys_map (o : Option (List VAL)) (s : List VAL) (v : VAL) : (o.map fun l => s ++ [v] ++ l) = ((o.map fun l => v :: l).map fun l => s ++ l) := by
  rw [Option.map_map]; congr 1; funext b; simp
set_option maxHeartbeats 4000000 in
set_option maxRecDepth 100000 in
theorem fromKey1_c (hi rb T : Nat) (xs : List UInt8) (w : World) (hr : Rd w hi rb T xs) : PP 131 #[.pointer (some ⟨rb, 0, none⟩)] w hi rb T ((pFrom xs).map fun l => (l, [])) (fun a v w' => Mine KV 90 (fun k => w.heap.size ≤ k) 0 0 w' v a ∧ (∀ u ∈ a, okV u) ∧ isT a = true) := by
  have hrl := hr.lt
  have hhr := hr.T
  refine X.enter Tryz.func131 rfl Tryz.ntmps131 rfl ?_
  refine X.seq ?_
  refine X.region ?_
  refine X.opw X.wN rfl (X.assign rfl) ?_
  refine X.opsEnd ?_
  refine X.seq ?_
  refine X.region ?_
  refine X.opw X.wN rfl (X.assign rfl) ?_
  refine X.opsEnd ?_
  refine X.seq ?_
  refine X.block ?_
  refine X.loopL (σ := Value × List VAL × List UInt8 × Nat) (fun s => [(0, .pointer (some ⟨rb, 0, none⟩)), (3, s.1)]) (fun s w' => s.2.1.length + s.2.2.1.length ≤ T ∧ s.2.2.1.length ≤ s.2.2.2 ∧ (∀ u ∈ s.2.1, okV u) ∧ Mine KV 90 (fun k => w.heap.size ≤ k) 0 0 w' s.1 s.2.1 ∧ Rd w' hi rb T s.2.2.1 ∧ ((pKeys s.2.2.2 s.2.2.1).map fun l => s.2.1 ++ l) = pKeys xs.length xs ∧ Ext (fun k => k = rb) w w') (fun s => s.2.2.1.length) (_, [], xs, xs.length) ⟨rfl, rfl, trivial⟩ ⟨by simp; omega, by simp, by simp, (Mine.nil _ _ _ _ _ _), hr, by simp, (Ext.refl (fun k => k = rb) _)⟩ ?_
  rintro ⟨v, s, l, n⟩ b wl ⟨hll, hln, hlo, hM, hR, hp, hk⟩ hback
  simp only at hll hln hlo hM hR hp
  have hk' := hk.size
  have hrl2 := hR.lt
  have hR' := hR
  obtain ⟨A, c, hnc, hB, hsl, hh1, hh2, hh3⟩ := hR'
  refine X.seq ?_
  refine X.seq ?_
  refine X.region ?_
  refine X.opw X.wN rfl (X.move rfl) ?_
  refine X.opw X.wN rfl (X.nilCk rfl) ?_
  refine X.opw X.wN rfl (X.fldB (j := 0) Tryz.underlying208 rfl rfl Tryz.sizeOf206 rfl) ?_
  refine X.opw X.wN rfl (X.fldB (j := 0) Tryz.underlying206 rfl rfl Tryz.sizeOf43 rfl) ?_
  refine X.opw X.wN rfl (X.load1B Tryz.isAgg43 hB rfl rfl) ?_
  refine X.opw X.wN rfl (X.lenSl Tryz.underlying43 rfl) ?_
  refine X.opP X.wN rfl rfl (X.gtr rfl rfl) (fun h10 => ?_) (fun h10 => ?_)
  · refine X.opsEnd ?_
    refine X.condT rfl ?_
    refine X.skip ?_
    refine X.block ?_
    refine X.region ?_
    refine X.opw X.wN rfl (X.move rfl) ?_
    refine X.opw X.wN rfl (X.move rfl) ?_
    refine X.opPR (keyed_c hi rb T _ _ hR) X.wN rfl Tryz.call132 rfl (fun b1 hb1 => ?_) (fun hb1 => ?_)
    · rintro _ w1 ⟨⟨rfl, hn1⟩, hR1, hx1⟩
      have hx1' := hx1.size
      have hlt := pKey_lt hb1
      obtain ⟨a1, ys1⟩ := b1
      simp only at hR1 hn1
      simp only at hlt
      refine X.opE X.wN rfl (X.litKE (K := KV) (xs := [Operand.tmp 13]) (vs := [.agg (encV a1).toArray]) (ys := [a1]) Tryz.underlying38 Tryz.sizeOf90 Tryz.zeroValue90 rfl rfl rfl rfl rfl (litV_ok hn1)) ?_
      rintro _ w2 ⟨rfl, hs2, hB2, hk2, hz2⟩
      refine X.opE X.wN rfl (X.appE (K := KV) (S := fun k => w.heap.size ≤ k) KV_flat Tryz.underlying38 EV rfl rfl ((hM.ext hx1 zq28 zq28).keep hk2) hs2 zq9 zq26) ?_
      rintro v3 w3 ⟨hM3, hx3⟩
      have hx3' := hx3.size
      refine X.opw X.wN rfl (X.assign rfl) ?_
      refine X.opsEnd ?_
      refine X.inBlock ?_
      refine hback (_, s ++ [a1], ys1, n - 1) _ _ ⟨rfl, rfl, trivial⟩ ⟨by simp only [List.length_append, List.length_cons, List.length_nil]; omega, by dsimp only; omega, by intro u hu; simp only [List.mem_append, List.mem_singleton] at hu; rcases hu with hu | rfl; exact hlo u hu; exact hn1, hM3, ((hR1.keep hk2).ext hx3 zq28), ?_, (Ext.andThen (Ext.andThen (Ext.andThen (Ext.andThen (Ext.refl (fun k => k = rb) _) hk zq23) hx1 zq23) hk2 zq23) hx3 zq23)⟩ (by dsimp only; omega)
      dsimp only
      rw [← hp, keys_map]
      congr 1
      rcases hq : l with _ | ⟨c0, l0⟩
      · subst hq; simp at hlt
      · rw [hq] at hb1 hln
        obtain ⟨n', rfl⟩ : ∃ n', n = n' + 1 := ⟨n - 1, by simp at hln; omega⟩
        rw [pKeys, hb1]; rfl
    · rintro w1 hx1
      have hx1' := hx1.size
      refine X.unw_pan Tryz.func131 ?_
      first
      | (rw [pFrom, ← hp]; rcases hq : l with _ | ⟨c0, l0⟩; · subst hq; simp at h10
         · rw [hq] at hb1 hln; obtain ⟨n', rfl⟩ : ∃ n', n = n' + 1 := ⟨n - 1, by simp at hln; omega⟩; rw [pKeys, hb1]; exact ⟨rfl, (Ext.andThen (Ext.andThen (Ext.refl (fun k => k = rb) _) hk zq23) hx1 zq23)⟩)
      | (rw [pFrom, ← hp]; dsimp only; rw [if_neg (by simpa using hc)]; exact ⟨rfl, (Ext.andThen (Ext.andThen (Ext.refl (fun k => k = rb) _) hk zq23) hx1 zq23)⟩)
  · have hl0 : l = [] := List.eq_nil_of_length_eq_zero (by omega)
    subst hl0
    rw [pKeys] at hp
    simp only [Option.map_some, List.append_nil] at hp
    refine X.opsEnd ?_
    refine X.condF rfl ?_
    refine X.exit rfl ?_
    refine X.seq ?_
    refine X.seq ?_
    refine X.region ?_
    refine X.opw X.wN rfl (X.move rfl) ?_
    have q5 := hM.slF KV_flat 0 (fun _ _ => Nat.zero_le _)
    obtain ⟨A5, c5, rfl, hc5, hs5⟩ := q5
    refine X.opE X.wN rfl (X.callE (may_c _ hs5) Tryz.call103 rfl rfl) ?_
    rintro _ w4 ⟨rfl, hk4⟩
    have hk4' := hk4.size
    refine X.opw X.wN rfl (X.not_ rfl) ?_
    refine X.opsEnd ?_
    refine X.condB rfl (fun hc => ?_) (fun hc => ?_)
    · refine X.region ?_
      refine X.opw X.wN rfl (X.buildB (cs := #[]) rfl (by kernel_rfl)) ?_
      refine X.opw X.wN rfl (X.mkIface Tryz.underlying210 rfl rfl) ?_
      refine X.opPanic X.wN rfl ?_
      refine X.unw_pan Tryz.func131 ?_
      first
      | (rw [pFrom, ← hp]; rcases hq : l with _ | ⟨c0, l0⟩; · subst hq; simp at h10
         · rw [hq] at hb1 hln; obtain ⟨n', rfl⟩ : ∃ n', n = n' + 1 := ⟨n - 1, by simp at hln; omega⟩; rw [pKeys, hb1]; exact ⟨rfl, (Ext.andThen (Ext.andThen (Ext.refl (fun k => k = rb) _) hk zq23) hk4 zq23)⟩)
      | (rw [pFrom, ← hp]; dsimp only; rw [if_neg (by simpa using hc)]; exact ⟨rfl, (Ext.andThen (Ext.andThen (Ext.refl (fun k => k = rb) _) hk zq23) hk4 zq23)⟩)
    · have hT : isT s = true := by simpa using hc
      refine X.skip ?_
      refine X.seq ?_
      refine X.region ?_
      refine X.opw X.wN rfl (X.move rfl) ?_
      refine X.opw X.wN rfl (X.assign rfl) ?_
      refine X.opsEnd ?_
      refine X.ret1 Tryz.func131 Tryz.results131 rfl ?_
      rw [pFrom, ← hp]
      dsimp only
      rw [if_pos hT]
      exact ⟨_, rfl, ⟨(hM.keep hk4), hlo, hT⟩, (hR.keep hk4), (Ext.andThen (Ext.andThen (Ext.refl (fun k => k = rb) _) hk zq23) hk4 zq23)⟩
end Go.Proofs.YtbljooblpfdbiaaGreatDoor
namespace Go.Proofs.YtbljooblpfdbiaaGreatDoor
open Go Go.Proofs.YtbljooblpfdbiaaGreatDoor.X
set_option maxHeartbeats 4000000 in
set_option maxRecDepth 100000 in
theorem caught_0 (be : Nat) (w : World) : DCall Tryz.prog 160 #[.pointer (some ⟨be, 0, none⟩)] w .returning fun m w' => m = .returning ∧ w' = w := by
  refine X.DCall.rec (mode' := .returning) (v := .nilIface) Tryz.func160 rfl Tryz.ntmps160 rfl rfl rfl ?_
  refine X.block ?_
  refine X.seq ?_
  refine X.region ?_
  refine X.opw X.wN rfl (X.eqIf0 Tryz.underlying20 rfl rfl) ?_
  refine X.opsEnd ?_
  refine X.condT rfl ?_
  refine X.seq ?_
  refine X.region ?_
  refine X.opw X.wN rfl (X.assign rfl) ?_
  refine X.opsEnd ?_
  refine X.ret0 Tryz.func160 Tryz.results160 ?_
  exact ⟨rfl, rfl⟩
set_option maxHeartbeats 4000000 in
set_option maxRecDepth 100000 in
theorem caught_1 (be : Nat) (x : Value) (w : World) (hB : Blk w be [x] 27) : DCall Tryz.prog 160 #[.pointer (some ⟨be, 0, none⟩)] w (.panicking [{ v := FAULT, recovered := false }]) fun m w' => m = .panicking [{ v := FAULT, recovered := true }] ∧ Blk w' be [.int .i64 30] 27 ∧ Ext (fun k => k = be) w w' := by
  have hlt := hB.lt
  refine X.DCall.rec (mode' := .panicking [{ v := FAULT, recovered := true }]) (v := FAULT) Tryz.func160 rfl Tryz.ntmps160 rfl rfl rfl ?_
  refine X.block ?_
  refine X.seq ?_
  refine X.region ?_
  refine X.opw X.wN rfl (X.eqIf1 Tryz.underlying20 rfl rfl) ?_
  refine X.opsEnd ?_
  refine X.condF rfl ?_
  refine X.seq ?_
  refine X.region ?_
  refine X.opw X.wN rfl (X.tAssert Tryz.underlying210 rfl rfl) ?_
  refine X.opw X.wN rfl (X.extr (v := .bool true) rfl rfl) ?_
  refine X.opw X.wN rfl (X.extr rfl rfl) ?_
  refine X.opsEnd ?_
  refine X.condT rfl ?_
  refine X.seq ?_
  refine X.region ?_
  refine X.opE X.wN rfl (X.allocE Tryz.zeroValue210 rfl) ?_
  rintro _ w1 ⟨rfl, hB1, hk1, hz1⟩
  refine X.opE X.wN rfl (X.storeNE Tryz.sizeOf210 hB1 rfl rfl rfl rfl (fun _ h => by cases h)) ?_
  rintro _ w2 ⟨hB2, hx2, hz2⟩
  refine X.opsEnd ?_
  refine X.region ?_
  refine X.opw X.wN rfl (X.move rfl) ?_
  refine X.opw X.wN rfl (X.nilCk rfl) ?_
  refine X.opE X.wN rfl (X.storeE Tryz.sizeOf27 (hB.keep (hk1.step hx2 zq26)) rfl rfl rfl rfl) ?_
  rintro _ w3 ⟨hB3, hx3, hz3⟩
  refine X.opsEnd ?_
  refine X.inBlock ?_
  refine X.end0 Tryz.func160 Tryz.results160 ?_
  exact ⟨rfl, hB3, (Ext.andThen (Ext.andThen (Ext.andThen (Ext.refl (fun k => k = be) _) hk1 zq23) hx2 zq23) hx3 zq23)⟩
set_option maxHeartbeats 4000000 in
set_option maxRecDepth 100000 in
theorem zero0_u64 (be bx bn : Nat) (w : World) (hE : Blk w be [.int .i64 0] 27) : Ret Tryz.prog 186 #[.pointer (some ⟨be, 0, none⟩), .pointer (some ⟨bx, 0, none⟩), .pointer (some ⟨bn, 0, none⟩)] w fun _ w' => w' = w := by
  refine X.enter Tryz.func186 rfl Tryz.ntmps186 rfl ?_
  refine X.seq ?_
  refine X.region ?_
  refine X.opw X.wN rfl (X.load1B Tryz.isAgg27 hE rfl rfl) ?_
  refine X.opP X.wN rfl rfl (X.neI rfl rfl) (fun h5 => ?_) (fun h5 => ?_)
  · exact absurd rfl h5
  · refine X.opsEnd ?_
    refine X.condF rfl ?_
    refine X.skip ?_
    refine X.end0 Tryz.func186 Tryz.results186 ?_
    rfl
set_option maxHeartbeats 4000000 in
set_option maxRecDepth 100000 in
theorem zero1_u64 (be bx bn : Nat) (x k : Value) (w : World) (hE : Blk w be [.int .i64 30] 27) (hX : Blk w bx [x] 119) (hN : Blk w bn [k] 3) (h1 : bx ≠ be) (h2 : bn ≠ be) (h3 : bn ≠ bx) : Ret Tryz.prog 186 #[.pointer (some ⟨be, 0, none⟩), .pointer (some ⟨bx, 0, none⟩), .pointer (some ⟨bn, 0, none⟩)] w
    fun _ w' => Blk w' be [.int .i64 30] 27 ∧ Blk w' bx [.int .u64 0] 119 ∧ Blk w' bn [.int .i64 0] 3 ∧ Ext (fun k => k = bx ∨ k = bn) w w' := by
  refine X.enter Tryz.func186 rfl Tryz.ntmps186 rfl ?_
  refine X.seq ?_
  refine X.region ?_
  refine X.opw X.wN rfl (X.load1B Tryz.isAgg27 hE rfl rfl) ?_
  refine X.opP X.wN rfl rfl (X.neI rfl rfl) (fun h5 => ?_) (fun h5 => ?_)
  · refine X.opsEnd ?_
    refine X.condT rfl ?_
    refine X.seq ?_
    refine X.region ?_
    refine X.opw X.wN rfl (X.assign rfl) ?_
    refine X.opsEnd ?_
    refine X.region ?_
    refine X.opw X.wN rfl (X.move (v := .int .u64 _) rfl) ?_
    refine X.opE X.wN rfl (X.storeE Tryz.sizeOf119 hX rfl rfl rfl rfl) ?_
    rintro _ w1 ⟨hB1, hx1, hz1⟩
    refine X.opE X.wN rfl (X.storeE Tryz.sizeOf3 (hN.ext hx1 zq28) rfl rfl rfl rfl) ?_
    rintro _ w2 ⟨hB2, hx2, hz2⟩
    refine X.opsEnd ?_
    refine X.end0 Tryz.func186 Tryz.results186 ?_
    exact ⟨((hE.ext hx1 zq28).ext hx2 zq28), (hB1.ext hx2 zq28), hB2, (Ext.andThen (Ext.andThen (Ext.refl (fun k => k = bx ∨ k = bn) _) hx1 zq23) hx2 zq23)⟩
  · exact absurd (by decide) h5
set_option maxHeartbeats 4000000 in
set_option maxRecDepth 100000 in
theorem take_u64 {α : Type} (p : List UInt8 → Option (α × List UInt8)) (V : World → α → Value → World → Prop) (G : Nat) (cap : List Value) (hG : ∀ args w, (callFunc G args).run Tryz.prog w = .ok (.enter G args) w) (xs : List UInt8) (A : Option Addr) (n c : Nat) (w : World) (hs : Sl KB 0 w.heap.size w A n xs) (hnc : n ≤ c) (hn : n ≤ 1000000)
    (hV1 : ∀ wb a v w1, V wb a v w1 → v.oneCell' = true) (hV2 : ∀ wb a v w1 w2 U, V wb a v w1 → Ext U w1 w2 → (∀ k, U k → k < wb.heap.size) → V wb a v w2)
    (hP : ∀ w' rb, Keep w w' → Rd w' rb rb n xs → PP G ([Value.pointer (some ⟨rb, 0, none⟩)] ++ cap).toArray w' rb rb n (p xs) (V w')) :
    Ret Tryz.prog 156 #[.slice A n c, .func (.func G) #[] cap.toArray] w fun r w' => (match p xs with
      | some (a, ys) => ∃ v wb, r = .tuple #[v, .int .i64 ((n : Int) - (ys.length : Int)), .int .i64 0] ∧ V wb a v w' ∧ Keep w wb ∧ wb.heap.size ≤ w'.heap.size
      | none => r = .tuple #[.int .u64 0, .int .i64 0, .int .i64 30]) ∧ Keep w w' := by
  have hl := hs.len
  refine X.enter Tryz.func156 rfl Tryz.ntmps156 rfl ?_
  refine X.seq ?_
  refine X.region ?_
  refine X.opE X.wN rfl (X.allocE Tryz.zeroValue119 rfl) ?_
  rintro _ w1 ⟨rfl, hB1, hk1, hz1⟩
  refine X.opE X.wN rfl (X.allocE Tryz.zeroValue3 rfl) ?_
  rintro _ w2 ⟨rfl, hB2, hk2, hz2⟩
  refine X.opE X.wN rfl (X.allocE Tryz.zeroValue27 rfl) ?_
  rintro _ w3 ⟨rfl, hB3, hk3, hz3⟩
  refine X.opsEnd ?_
  refine X.seq ?_
  refine X.region ?_
  refine X.opw X.wN rfl (X.mkFunc rfl) ?_
  refine X.opDefer X.wN rfl rfl ?_
  refine X.opsEnd ?_
  refine X.seq ?_
  refine X.region ?_
  refine X.opDefer X.wN rfl rfl ?_
  refine X.opsEnd ?_
  refine X.seq ?_
  refine X.region ?_
  refine X.opw X.wN rfl (X.move (v := .slice _ _ _) rfl) ?_
  refine X.opE X.wN rfl (X.callE (over_c _ ((hs.keep ((hk1.trans hk2).trans hk3)).wide (Nat.le_refl _) (by omega)) hnc hn) Tryz.call161 rfl rfl) ?_
  rintro _ w4 ⟨rfl, hR4, hk4, hz4⟩
  refine X.opw X.wN rfl (X.assign rfl) ?_
  refine X.opsEnd ?_
  refine X.seq ?_
  refine X.region ?_
  refine X.opw X.wN rfl (X.move rfl) ?_
  refine X.opw X.wN rfl (X.move rfl) ?_
  refine X.opPRV (vs := [_]) rfl (hP _ _ (((hk1.trans hk2).trans hk3).trans hk4) hR4) X.wN rfl hG rfl (fun b5 hb5 => ?_) (fun hb5 => ?_)
  · rintro v5 w5 ⟨hv5, hR5, hx5⟩
    have hx5' := hx5.size
    obtain ⟨Ar, cr, hr1, hB5, hr2, hr3, hr4, hr5⟩ := hR5
    refine X.opE X.wN rfl (X.storeE Tryz.sizeOf119 ((hB1.keep ((hk2.trans hk3).trans hk4)).ext hx5 zq28) rfl rfl rfl (hV1 _ _ _ _ hv5)) ?_
    rintro _ w6 ⟨hB6, hx6, hz6⟩
    refine X.opsEnd ?_
    refine X.seq ?_
    refine X.regionD (fun k => k = w.heap.size) 6 (by kernel_rfl) (by kernel_rfl) (fun w7 hk7 hz7 => ?_)
    refine X.dTake 1 rfl (by kernel_rfl) (by kernel_rfl) (by kernel_rfl) (X.dwN rfl) (fun w' hk' => X.move rfl) ?_
    refine X.dTake 2 rfl (by kernel_rfl) (by kernel_rfl) (by kernel_rfl) (X.dwN rfl) (fun w' hk' => X.nilCk rfl) ?_
    refine X.dTake 3 rfl (by kernel_rfl) (by kernel_rfl) (by kernel_rfl) (X.dwN rfl) (fun w' hk' => X.fldB (j := 1) Tryz.underlying208 rfl rfl Tryz.sizeOf3 rfl) ?_
    refine X.dTake 4 rfl (by kernel_rfl) (by kernel_rfl) (by kernel_rfl) (X.dwN rfl) (fun w' hk' => X.load1B Tryz.isAgg3 (((hB5.ext hx6 zq28).keep hk7).ext hk' zq28) rfl rfl) ?_
    refine X.dStep (i := 0) (by kernel_rfl) rfl (X.dwN rfl) (X.load1B Tryz.isAgg119 (hB6.keep hk7) rfl rfl) (fun _ => Ext.refl _ _) ?_
    refine X.dE (i := 5) (by kernel_rfl) rfl (X.dwN rfl) (X.storeE Tryz.sizeOf119 (hB6.keep hk7) rfl rfl rfl (hV1 _ _ _ _ hv5)) (by rintro _ w8 ⟨hB8, hx8, hz8⟩ _; exact hx8) ?_
    rintro _ w8 ⟨hB8, hx8, hz8⟩
    refine X.dE (i := 6) (by kernel_rfl) rfl (X.dwN rfl) (X.storeE Tryz.sizeOf3 (((((hB2.keep (hk3.trans hk4)).ext hx5 zq28).ext hx6 zq28).keep hk7).ext hx8 zq28) rfl rfl rfl rfl) (fun _ _ _ h => absurd h (by decide)) ?_
    rintro _ w9 ⟨hB9, hx9, hz9⟩
    refine X.dE (i := 7) (by kernel_rfl) rfl (X.dwN rfl) (X.storeE Tryz.sizeOf27 ((((((hB3.keep hk4).ext hx5 zq28).ext hx6 zq28).keep hk7).ext hx8 zq28).ext hx9 zq28) rfl rfl rfl rfl) (fun _ _ _ h => absurd h (by decide)) ?_
    rintro _ w10 ⟨hB10, hx10, hz10⟩
    refine X.dEnd (by kernel_rfl) ?_
    refine X.ret_unw ?_
    refine X.unw_defer Tryz.call160 (fun h => by cases h) (caught_0 _ _) ?_
    rintro m wz ⟨rfl, rfl⟩
    show X.Unw _ _ _ FrameMode.returning _ _ _ _
    refine X.unw_defer Tryz.call186 (fun h => by cases h) (X.DCall.of_ret (zero0_u64 _ _ _ _ hB10)) ?_
    rintro m wz ⟨rfl, vz, rfl⟩
    show X.Unw _ _ _ FrameMode.returning _ _ _ _
    refine X.unwR3 Tryz.func156 Tryz.results156 (X.ResOk.cell rfl (X.lv1 Tryz.isAgg119 ((hB8.ext hx9 zq28).ext hx10 zq28) rfl)) (X.ResOk.cell rfl (X.lv1 Tryz.isAgg3 (hB9.ext hx10 zq28) rfl)) (X.ResOk.cell rfl (X.lv1 Tryz.isAgg27 hB10 rfl)) ?_
    refine ⟨?_, (((((((((hk1.trans hk2).trans hk3).trans hk4).step hx5 zq26).step hx6 zq26).trans hk7).step hx8 zq26).step hx9 zq26).step hx10 zq26)⟩
    rw [hb5]
    obtain ⟨a5, ys5⟩ := b5
    exact ⟨v5, w4, rfl, hV2 _ _ _ _ _ _ (hV2 _ _ _ _ _ _ (hV2 _ _ _ _ _ _ (hV2 _ _ _ _ _ _ (hV2 _ _ _ _ _ _ hv5 hx6 zq24) hk7 zq24) hx8 zq24) hx9 zq24) hx10 zq24, (((hk1.trans hk2).trans hk3).trans hk4), by omega⟩
  · rintro w5 hx5
    have hx5' := hx5.size
    refine X.unw_defer Tryz.call160 (fun h => by cases h) (caught_1 _ _ _ ((hB3.keep hk4).ext hx5 zq28)) ?_
    rintro m wz ⟨rfl, hBz, hxz⟩
    have hxz' := hxz.size
    show X.Unw _ _ _ FrameMode.returning _ _ _ _
    refine X.unw_defer Tryz.call186 (fun h => by cases h) (X.DCall.of_ret (zero1_u64 _ _ _ _ _ _ hBz (((hB1.keep ((hk2.trans hk3).trans hk4)).ext hx5 zq28).ext hxz zq28) (((hB2.keep (hk3.trans hk4)).ext hx5 zq28).ext hxz zq28) (by omega) (by omega) (by omega))) ?_
    rintro m wq ⟨rfl, vq, hq1, hq2, hq3, hq4⟩
    show X.Unw _ _ _ FrameMode.returning _ _ _ _
    refine X.unwR3 Tryz.func156 Tryz.results156 (X.ResOk.cell rfl (X.lv1 Tryz.isAgg119 hq2 rfl)) (X.ResOk.cell rfl (X.lv1 Tryz.isAgg3 hq3 rfl)) (X.ResOk.cell rfl (X.lv1 Tryz.isAgg27 hq1 rfl)) ?_
    refine ⟨?_, ((((((hk1.trans hk2).trans hk3).trans hk4).step hx5 zq26).step hxz zq26).step hq4 zq26)⟩
    rw [hb5]
set_option maxHeartbeats 4000000 in
set_option maxRecDepth 100000 in
theorem zero0_row (be bx bn : Nat) (w : World) (hE : Blk w be [.int .i64 0] 27) : Ret Tryz.prog 159 #[.pointer (some ⟨be, 0, none⟩), .pointer (some ⟨bx, 0, none⟩), .pointer (some ⟨bn, 0, none⟩)] w fun _ w' => w' = w := by
  refine X.enter Tryz.func159 rfl Tryz.ntmps159 rfl ?_
  refine X.seq ?_
  refine X.region ?_
  refine X.opw X.wN rfl (X.load1B Tryz.isAgg27 hE rfl rfl) ?_
  refine X.opP X.wN rfl rfl (X.neI rfl rfl) (fun h5 => ?_) (fun h5 => ?_)
  · exact absurd rfl h5
  · refine X.opsEnd ?_
    refine X.condF rfl ?_
    refine X.skip ?_
    refine X.end0 Tryz.func159 Tryz.results159 ?_
    rfl
set_option maxHeartbeats 4000000 in
set_option maxRecDepth 100000 in
theorem zero1_row (be bx bn : Nat) (x k : Value) (w : World) (hE : Blk w be [.int .i64 30] 27) (hX : Blk w bx [x] 43) (hN : Blk w bn [k] 3) (h1 : bx ≠ be) (h2 : bn ≠ be) (h3 : bn ≠ bx) : Ret Tryz.prog 159 #[.pointer (some ⟨be, 0, none⟩), .pointer (some ⟨bx, 0, none⟩), .pointer (some ⟨bn, 0, none⟩)] w
    fun _ w' => Blk w' be [.int .i64 30] 27 ∧ Blk w' bx [.slice none 0 0] 43 ∧ Blk w' bn [.int .i64 0] 3 ∧ Ext (fun k => k = bx ∨ k = bn) w w' := by
  refine X.enter Tryz.func159 rfl Tryz.ntmps159 rfl ?_
  refine X.seq ?_
  refine X.region ?_
  refine X.opw X.wN rfl (X.load1B Tryz.isAgg27 hE rfl rfl) ?_
  refine X.opP X.wN rfl rfl (X.neI rfl rfl) (fun h5 => ?_) (fun h5 => ?_)
  · refine X.opsEnd ?_
    refine X.condT rfl ?_
    refine X.seq ?_
    refine X.region ?_
    refine X.opw X.wN rfl (X.assign rfl) ?_
    refine X.opsEnd ?_
    refine X.region ?_
    refine X.opw X.wN rfl (X.move rfl) ?_
    refine X.opE X.wN rfl (X.storeE Tryz.sizeOf43 hX rfl rfl rfl rfl) ?_
    rintro _ w1 ⟨hB1, hx1, hz1⟩
    refine X.opE X.wN rfl (X.storeE Tryz.sizeOf3 (hN.ext hx1 zq28) rfl rfl rfl rfl) ?_
    rintro _ w2 ⟨hB2, hx2, hz2⟩
    refine X.opsEnd ?_
    refine X.end0 Tryz.func159 Tryz.results159 ?_
    exact ⟨((hE.ext hx1 zq28).ext hx2 zq28), (hB1.ext hx2 zq28), hB2, (Ext.andThen (Ext.andThen (Ext.refl (fun k => k = bx ∨ k = bn) _) hx1 zq23) hx2 zq23)⟩
  · exact absurd (by decide) h5
set_option maxHeartbeats 4000000 in
set_option maxRecDepth 100000 in
theorem take_row {α : Type} (p : List UInt8 → Option (α × List UInt8)) (V : World → α → Value → World → Prop) (G : Nat) (cap : List Value) (hG : ∀ args w, (callFunc G args).run Tryz.prog w = .ok (.enter G args) w) (xs : List UInt8) (A : Option Addr) (n c : Nat) (w : World) (hs : Sl KB 0 w.heap.size w A n xs) (hnc : n ≤ c) (hn : n ≤ 1000000)
    (hV1 : ∀ wb a v w1, V wb a v w1 → v.oneCell' = true) (hV2 : ∀ wb a v w1 w2 U, V wb a v w1 → Ext U w1 w2 → (∀ k, U k → k < wb.heap.size) → V wb a v w2)
    (hP : ∀ w' rb, Keep w w' → Rd w' rb rb n xs → PP G ([Value.pointer (some ⟨rb, 0, none⟩)] ++ cap).toArray w' rb rb n (p xs) (V w')) :
    Ret Tryz.prog 127 #[.slice A n c, .func (.func G) #[] cap.toArray] w fun r w' => (match p xs with
      | some (a, ys) => ∃ v wb, r = .tuple #[v, .int .i64 ((n : Int) - (ys.length : Int)), .int .i64 0] ∧ V wb a v w' ∧ Keep w wb ∧ wb.heap.size ≤ w'.heap.size
      | none => r = .tuple #[.slice none 0 0, .int .i64 0, .int .i64 30]) ∧ Keep w w' := by
  have hl := hs.len
  refine X.enter Tryz.func127 rfl Tryz.ntmps127 rfl ?_
  refine X.seq ?_
  refine X.region ?_
  refine X.opE X.wN rfl (X.allocE Tryz.zeroValue43 rfl) ?_
  rintro _ w1 ⟨rfl, hB1, hk1, hz1⟩
  refine X.opE X.wN rfl (X.allocE Tryz.zeroValue3 rfl) ?_
  rintro _ w2 ⟨rfl, hB2, hk2, hz2⟩
  refine X.opE X.wN rfl (X.allocE Tryz.zeroValue27 rfl) ?_
  rintro _ w3 ⟨rfl, hB3, hk3, hz3⟩
  refine X.opsEnd ?_
  refine X.seq ?_
  refine X.region ?_
  refine X.opw X.wN rfl (X.mkFunc rfl) ?_
  refine X.opDefer X.wN rfl rfl ?_
  refine X.opsEnd ?_
  refine X.seq ?_
  refine X.region ?_
  refine X.opDefer X.wN rfl rfl ?_
  refine X.opsEnd ?_
  refine X.seq ?_
  refine X.region ?_
  refine X.opw X.wN rfl (X.move (v := .slice _ _ _) rfl) ?_
  refine X.opE X.wN rfl (X.callE (over_c _ ((hs.keep ((hk1.trans hk2).trans hk3)).wide (Nat.le_refl _) (by omega)) hnc hn) Tryz.call161 rfl rfl) ?_
  rintro _ w4 ⟨rfl, hR4, hk4, hz4⟩
  refine X.opw X.wN rfl (X.assign rfl) ?_
  refine X.opsEnd ?_
  refine X.seq ?_
  refine X.region ?_
  refine X.opw X.wN rfl (X.move rfl) ?_
  refine X.opw X.wN rfl (X.move rfl) ?_
  refine X.opPRV (vs := [_]) rfl (hP _ _ (((hk1.trans hk2).trans hk3).trans hk4) hR4) X.wN rfl hG rfl (fun b5 hb5 => ?_) (fun hb5 => ?_)
  · rintro v5 w5 ⟨hv5, hR5, hx5⟩
    have hx5' := hx5.size
    obtain ⟨Ar, cr, hr1, hB5, hr2, hr3, hr4, hr5⟩ := hR5
    refine X.opE X.wN rfl (X.storeE Tryz.sizeOf43 ((hB1.keep ((hk2.trans hk3).trans hk4)).ext hx5 zq28) rfl rfl rfl (hV1 _ _ _ _ hv5)) ?_
    rintro _ w6 ⟨hB6, hx6, hz6⟩
    refine X.opsEnd ?_
    refine X.seq ?_
    refine X.regionD (fun k => k = w.heap.size) 6 (by kernel_rfl) (by kernel_rfl) (fun w7 hk7 hz7 => ?_)
    refine X.dTake 1 rfl (by kernel_rfl) (by kernel_rfl) (by kernel_rfl) (X.dwN rfl) (fun w' hk' => X.move rfl) ?_
    refine X.dTake 2 rfl (by kernel_rfl) (by kernel_rfl) (by kernel_rfl) (X.dwN rfl) (fun w' hk' => X.nilCk rfl) ?_
    refine X.dTake 3 rfl (by kernel_rfl) (by kernel_rfl) (by kernel_rfl) (X.dwN rfl) (fun w' hk' => X.fldB (j := 1) Tryz.underlying208 rfl rfl Tryz.sizeOf3 rfl) ?_
    refine X.dTake 4 rfl (by kernel_rfl) (by kernel_rfl) (by kernel_rfl) (X.dwN rfl) (fun w' hk' => X.load1B Tryz.isAgg3 (((hB5.ext hx6 zq28).keep hk7).ext hk' zq28) rfl rfl) ?_
    refine X.dStep (i := 0) (by kernel_rfl) rfl (X.dwN rfl) (X.load1B Tryz.isAgg43 (hB6.keep hk7) rfl rfl) (fun _ => Ext.refl _ _) ?_
    refine X.dE (i := 5) (by kernel_rfl) rfl (X.dwN rfl) (X.storeE Tryz.sizeOf43 (hB6.keep hk7) rfl rfl rfl (hV1 _ _ _ _ hv5)) (by rintro _ w8 ⟨hB8, hx8, hz8⟩ _; exact hx8) ?_
    rintro _ w8 ⟨hB8, hx8, hz8⟩
    refine X.dE (i := 6) (by kernel_rfl) rfl (X.dwN rfl) (X.storeE Tryz.sizeOf3 (((((hB2.keep (hk3.trans hk4)).ext hx5 zq28).ext hx6 zq28).keep hk7).ext hx8 zq28) rfl rfl rfl rfl) (fun _ _ _ h => absurd h (by decide)) ?_
    rintro _ w9 ⟨hB9, hx9, hz9⟩
    refine X.dE (i := 7) (by kernel_rfl) rfl (X.dwN rfl) (X.storeE Tryz.sizeOf27 ((((((hB3.keep hk4).ext hx5 zq28).ext hx6 zq28).keep hk7).ext hx8 zq28).ext hx9 zq28) rfl rfl rfl rfl) (fun _ _ _ h => absurd h (by decide)) ?_
    rintro _ w10 ⟨hB10, hx10, hz10⟩
    refine X.dEnd (by kernel_rfl) ?_
    refine X.ret_unw ?_
    refine X.unw_defer Tryz.call160 (fun h => by cases h) (caught_0 _ _) ?_
    rintro m wz ⟨rfl, rfl⟩
    show X.Unw _ _ _ FrameMode.returning _ _ _ _
    refine X.unw_defer Tryz.call159 (fun h => by cases h) (X.DCall.of_ret (zero0_row _ _ _ _ hB10)) ?_
    rintro m wz ⟨rfl, vz, rfl⟩
    show X.Unw _ _ _ FrameMode.returning _ _ _ _
    refine X.unwR3 Tryz.func127 Tryz.results127 (X.ResOk.cell rfl (X.lv1 Tryz.isAgg43 ((hB8.ext hx9 zq28).ext hx10 zq28) rfl)) (X.ResOk.cell rfl (X.lv1 Tryz.isAgg3 (hB9.ext hx10 zq28) rfl)) (X.ResOk.cell rfl (X.lv1 Tryz.isAgg27 hB10 rfl)) ?_
    refine ⟨?_, (((((((((hk1.trans hk2).trans hk3).trans hk4).step hx5 zq26).step hx6 zq26).trans hk7).step hx8 zq26).step hx9 zq26).step hx10 zq26)⟩
    rw [hb5]
    obtain ⟨a5, ys5⟩ := b5
    exact ⟨v5, w4, rfl, hV2 _ _ _ _ _ _ (hV2 _ _ _ _ _ _ (hV2 _ _ _ _ _ _ (hV2 _ _ _ _ _ _ (hV2 _ _ _ _ _ _ hv5 hx6 zq24) hk7 zq24) hx8 zq24) hx9 zq24) hx10 zq24, (((hk1.trans hk2).trans hk3).trans hk4), by omega⟩
  · rintro w5 hx5
    have hx5' := hx5.size
    refine X.unw_defer Tryz.call160 (fun h => by cases h) (caught_1 _ _ _ ((hB3.keep hk4).ext hx5 zq28)) ?_
    rintro m wz ⟨rfl, hBz, hxz⟩
    have hxz' := hxz.size
    show X.Unw _ _ _ FrameMode.returning _ _ _ _
    refine X.unw_defer Tryz.call159 (fun h => by cases h) (X.DCall.of_ret (zero1_row _ _ _ _ _ _ hBz (((hB1.keep ((hk2.trans hk3).trans hk4)).ext hx5 zq28).ext hxz zq28) (((hB2.keep (hk3.trans hk4)).ext hx5 zq28).ext hxz zq28) (by omega) (by omega) (by omega))) ?_
    rintro m wq ⟨rfl, vq, hq1, hq2, hq3, hq4⟩
    show X.Unw _ _ _ FrameMode.returning _ _ _ _
    refine X.unwR3 Tryz.func127 Tryz.results127 (X.ResOk.cell rfl (X.lv1 Tryz.isAgg43 hq2 rfl)) (X.ResOk.cell rfl (X.lv1 Tryz.isAgg3 hq3 rfl)) (X.ResOk.cell rfl (X.lv1 Tryz.isAgg27 hq1 rfl)) ?_
    refine ⟨?_, ((((((hk1.trans hk2).trans hk3).trans hk4).step hx5 zq26).step hxz zq26).step hq4 zq26)⟩
    rw [hb5]
set_option maxHeartbeats 4000000 in
set_option maxRecDepth 100000 in
theorem zero0_tup (be bx bn : Nat) (w : World) (hE : Blk w be [.int .i64 0] 27) : Ret Tryz.prog 163 #[.pointer (some ⟨be, 0, none⟩), .pointer (some ⟨bx, 0, none⟩), .pointer (some ⟨bn, 0, none⟩)] w fun _ w' => w' = w := by
  refine X.enter Tryz.func163 rfl Tryz.ntmps163 rfl ?_
  refine X.seq ?_
  refine X.region ?_
  refine X.opw X.wN rfl (X.load1B Tryz.isAgg27 hE rfl rfl) ?_
  refine X.opP X.wN rfl rfl (X.neI rfl rfl) (fun h5 => ?_) (fun h5 => ?_)
  · exact absurd rfl h5
  · refine X.opsEnd ?_
    refine X.condF rfl ?_
    refine X.skip ?_
    refine X.end0 Tryz.func163 Tryz.results163 ?_
    rfl
set_option maxHeartbeats 4000000 in
set_option maxRecDepth 100000 in
theorem zero1_tup (be bx bn : Nat) (x k : Value) (w : World) (hE : Blk w be [.int .i64 30] 27) (hX : Blk w bx [x] 38) (hN : Blk w bn [k] 3) (h1 : bx ≠ be) (h2 : bn ≠ be) (h3 : bn ≠ bx) : Ret Tryz.prog 163 #[.pointer (some ⟨be, 0, none⟩), .pointer (some ⟨bx, 0, none⟩), .pointer (some ⟨bn, 0, none⟩)] w
    fun _ w' => Blk w' be [.int .i64 30] 27 ∧ Blk w' bx [.slice none 0 0] 38 ∧ Blk w' bn [.int .i64 0] 3 ∧ Ext (fun k => k = bx ∨ k = bn) w w' := by
  refine X.enter Tryz.func163 rfl Tryz.ntmps163 rfl ?_
  refine X.seq ?_
  refine X.region ?_
  refine X.opw X.wN rfl (X.load1B Tryz.isAgg27 hE rfl rfl) ?_
  refine X.opP X.wN rfl rfl (X.neI rfl rfl) (fun h5 => ?_) (fun h5 => ?_)
  · refine X.opsEnd ?_
    refine X.condT rfl ?_
    refine X.seq ?_
    refine X.region ?_
    refine X.opw X.wN rfl (X.assign rfl) ?_
    refine X.opsEnd ?_
    refine X.region ?_
    refine X.opw X.wN rfl (X.move rfl) ?_
    refine X.opE X.wN rfl (X.storeE Tryz.sizeOf38 hX rfl rfl rfl rfl) ?_
    rintro _ w1 ⟨hB1, hx1, hz1⟩
    refine X.opE X.wN rfl (X.storeE Tryz.sizeOf3 (hN.ext hx1 zq28) rfl rfl rfl rfl) ?_
    rintro _ w2 ⟨hB2, hx2, hz2⟩
    refine X.opsEnd ?_
    refine X.end0 Tryz.func163 Tryz.results163 ?_
    exact ⟨((hE.ext hx1 zq28).ext hx2 zq28), (hB1.ext hx2 zq28), hB2, (Ext.andThen (Ext.andThen (Ext.refl (fun k => k = bx ∨ k = bn) _) hx1 zq23) hx2 zq23)⟩
  · exact absurd (by decide) h5
set_option maxHeartbeats 4000000 in
set_option maxRecDepth 100000 in
theorem take_tup {α : Type} (p : List UInt8 → Option (α × List UInt8)) (V : World → α → Value → World → Prop) (G : Nat) (cap : List Value) (hG : ∀ args w, (callFunc G args).run Tryz.prog w = .ok (.enter G args) w) (xs : List UInt8) (A : Option Addr) (n c : Nat) (w : World) (hs : Sl KB 0 w.heap.size w A n xs) (hnc : n ≤ c) (hn : n ≤ 1000000)
    (hV1 : ∀ wb a v w1, V wb a v w1 → v.oneCell' = true) (hV2 : ∀ wb a v w1 w2 U, V wb a v w1 → Ext U w1 w2 → (∀ k, U k → k < wb.heap.size) → V wb a v w2)
    (hP : ∀ w' rb, Keep w w' → Rd w' rb rb n xs → PP G ([Value.pointer (some ⟨rb, 0, none⟩)] ++ cap).toArray w' rb rb n (p xs) (V w')) :
    Ret Tryz.prog 130 #[.slice A n c, .func (.func G) #[] cap.toArray] w fun r w' => (match p xs with
      | some (a, ys) => ∃ v wb, r = .tuple #[v, .int .i64 ((n : Int) - (ys.length : Int)), .int .i64 0] ∧ V wb a v w' ∧ Keep w wb ∧ wb.heap.size ≤ w'.heap.size
      | none => r = .tuple #[.slice none 0 0, .int .i64 0, .int .i64 30]) ∧ Keep w w' := by
  have hl := hs.len
  refine X.enter Tryz.func130 rfl Tryz.ntmps130 rfl ?_
  refine X.seq ?_
  refine X.region ?_
  refine X.opE X.wN rfl (X.allocE Tryz.zeroValue38 rfl) ?_
  rintro _ w1 ⟨rfl, hB1, hk1, hz1⟩
  refine X.opE X.wN rfl (X.allocE Tryz.zeroValue3 rfl) ?_
  rintro _ w2 ⟨rfl, hB2, hk2, hz2⟩
  refine X.opE X.wN rfl (X.allocE Tryz.zeroValue27 rfl) ?_
  rintro _ w3 ⟨rfl, hB3, hk3, hz3⟩
  refine X.opsEnd ?_
  refine X.seq ?_
  refine X.region ?_
  refine X.opw X.wN rfl (X.mkFunc rfl) ?_
  refine X.opDefer X.wN rfl rfl ?_
  refine X.opsEnd ?_
  refine X.seq ?_
  refine X.region ?_
  refine X.opDefer X.wN rfl rfl ?_
  refine X.opsEnd ?_
  refine X.seq ?_
  refine X.region ?_
  refine X.opw X.wN rfl (X.move (v := .slice _ _ _) rfl) ?_
  refine X.opE X.wN rfl (X.callE (over_c _ ((hs.keep ((hk1.trans hk2).trans hk3)).wide (Nat.le_refl _) (by omega)) hnc hn) Tryz.call161 rfl rfl) ?_
  rintro _ w4 ⟨rfl, hR4, hk4, hz4⟩
  refine X.opw X.wN rfl (X.assign rfl) ?_
  refine X.opsEnd ?_
  refine X.seq ?_
  refine X.region ?_
  refine X.opw X.wN rfl (X.move rfl) ?_
  refine X.opw X.wN rfl (X.move rfl) ?_
  refine X.opPRV (vs := [_]) rfl (hP _ _ (((hk1.trans hk2).trans hk3).trans hk4) hR4) X.wN rfl hG rfl (fun b5 hb5 => ?_) (fun hb5 => ?_)
  · rintro v5 w5 ⟨hv5, hR5, hx5⟩
    have hx5' := hx5.size
    obtain ⟨Ar, cr, hr1, hB5, hr2, hr3, hr4, hr5⟩ := hR5
    refine X.opE X.wN rfl (X.storeE Tryz.sizeOf38 ((hB1.keep ((hk2.trans hk3).trans hk4)).ext hx5 zq28) rfl rfl rfl (hV1 _ _ _ _ hv5)) ?_
    rintro _ w6 ⟨hB6, hx6, hz6⟩
    refine X.opsEnd ?_
    refine X.seq ?_
    refine X.regionD (fun k => k = w.heap.size) 6 (by kernel_rfl) (by kernel_rfl) (fun w7 hk7 hz7 => ?_)
    refine X.dTake 1 rfl (by kernel_rfl) (by kernel_rfl) (by kernel_rfl) (X.dwN rfl) (fun w' hk' => X.move rfl) ?_
    refine X.dTake 2 rfl (by kernel_rfl) (by kernel_rfl) (by kernel_rfl) (X.dwN rfl) (fun w' hk' => X.nilCk rfl) ?_
    refine X.dTake 3 rfl (by kernel_rfl) (by kernel_rfl) (by kernel_rfl) (X.dwN rfl) (fun w' hk' => X.fldB (j := 1) Tryz.underlying208 rfl rfl Tryz.sizeOf3 rfl) ?_
    refine X.dTake 4 rfl (by kernel_rfl) (by kernel_rfl) (by kernel_rfl) (X.dwN rfl) (fun w' hk' => X.load1B Tryz.isAgg3 (((hB5.ext hx6 zq28).keep hk7).ext hk' zq28) rfl rfl) ?_
    refine X.dStep (i := 0) (by kernel_rfl) rfl (X.dwN rfl) (X.load1B Tryz.isAgg38 (hB6.keep hk7) rfl rfl) (fun _ => Ext.refl _ _) ?_
    refine X.dE (i := 5) (by kernel_rfl) rfl (X.dwN rfl) (X.storeE Tryz.sizeOf38 (hB6.keep hk7) rfl rfl rfl (hV1 _ _ _ _ hv5)) (by rintro _ w8 ⟨hB8, hx8, hz8⟩ _; exact hx8) ?_
    rintro _ w8 ⟨hB8, hx8, hz8⟩
    refine X.dE (i := 6) (by kernel_rfl) rfl (X.dwN rfl) (X.storeE Tryz.sizeOf3 (((((hB2.keep (hk3.trans hk4)).ext hx5 zq28).ext hx6 zq28).keep hk7).ext hx8 zq28) rfl rfl rfl rfl) (fun _ _ _ h => absurd h (by decide)) ?_
    rintro _ w9 ⟨hB9, hx9, hz9⟩
    refine X.dE (i := 7) (by kernel_rfl) rfl (X.dwN rfl) (X.storeE Tryz.sizeOf27 ((((((hB3.keep hk4).ext hx5 zq28).ext hx6 zq28).keep hk7).ext hx8 zq28).ext hx9 zq28) rfl rfl rfl rfl) (fun _ _ _ h => absurd h (by decide)) ?_
    rintro _ w10 ⟨hB10, hx10, hz10⟩
    refine X.dEnd (by kernel_rfl) ?_
    refine X.ret_unw ?_
    refine X.unw_defer Tryz.call160 (fun h => by cases h) (caught_0 _ _) ?_
    rintro m wz ⟨rfl, rfl⟩
    show X.Unw _ _ _ FrameMode.returning _ _ _ _
    refine X.unw_defer Tryz.call163 (fun h => by cases h) (X.DCall.of_ret (zero0_tup _ _ _ _ hB10)) ?_
    rintro m wz ⟨rfl, vz, rfl⟩
    show X.Unw _ _ _ FrameMode.returning _ _ _ _
    refine X.unwR3 Tryz.func130 Tryz.results130 (X.ResOk.cell rfl (X.lv1 Tryz.isAgg38 ((hB8.ext hx9 zq28).ext hx10 zq28) rfl)) (X.ResOk.cell rfl (X.lv1 Tryz.isAgg3 (hB9.ext hx10 zq28) rfl)) (X.ResOk.cell rfl (X.lv1 Tryz.isAgg27 hB10 rfl)) ?_
    refine ⟨?_, (((((((((hk1.trans hk2).trans hk3).trans hk4).step hx5 zq26).step hx6 zq26).trans hk7).step hx8 zq26).step hx9 zq26).step hx10 zq26)⟩
    rw [hb5]
    obtain ⟨a5, ys5⟩ := b5
    exact ⟨v5, w4, rfl, hV2 _ _ _ _ _ _ (hV2 _ _ _ _ _ _ (hV2 _ _ _ _ _ _ (hV2 _ _ _ _ _ _ (hV2 _ _ _ _ _ _ hv5 hx6 zq24) hk7 zq24) hx8 zq24) hx9 zq24) hx10 zq24, (((hk1.trans hk2).trans hk3).trans hk4), by omega⟩
  · rintro w5 hx5
    have hx5' := hx5.size
    refine X.unw_defer Tryz.call160 (fun h => by cases h) (caught_1 _ _ _ ((hB3.keep hk4).ext hx5 zq28)) ?_
    rintro m wz ⟨rfl, hBz, hxz⟩
    have hxz' := hxz.size
    show X.Unw _ _ _ FrameMode.returning _ _ _ _
    refine X.unw_defer Tryz.call163 (fun h => by cases h) (X.DCall.of_ret (zero1_tup _ _ _ _ _ _ hBz (((hB1.keep ((hk2.trans hk3).trans hk4)).ext hx5 zq28).ext hxz zq28) (((hB2.keep (hk3.trans hk4)).ext hx5 zq28).ext hxz zq28) (by omega) (by omega) (by omega))) ?_
    rintro m wq ⟨rfl, vq, hq1, hq2, hq3, hq4⟩
    show X.Unw _ _ _ FrameMode.returning _ _ _ _
    refine X.unwR3 Tryz.func130 Tryz.results130 (X.ResOk.cell rfl (X.lv1 Tryz.isAgg38 hq2 rfl)) (X.ResOk.cell rfl (X.lv1 Tryz.isAgg3 hq3 rfl)) (X.ResOk.cell rfl (X.lv1 Tryz.isAgg27 hq1 rfl)) ?_
    refine ⟨?_, ((((((hk1.trans hk2).trans hk3).trans hk4).step hx5 zq26).step hxz zq26).step hq4 zq26)⟩
    rw [hb5]
end Go.Proofs.YtbljooblpfdbiaaGreatDoor
namespace Go.Proofs.YtbljooblpfdbiaaGreatDoor
open Go Go.Proofs.YtbljooblpfdbiaaGreatDoor.X
theorem mineV1 {α : Type} {K : Kd α} {e : TypeId} {S : Nat → Prop} {w : World} {v : Value} {l : List α} (h : Mine K e S 0 0 w v l) : v.oneCell' = true := by
  obtain ⟨A, c, rfl, _⟩ := h.slice; rfl
theorem takeKey_c {A : Option Addr} {n c : Nat} {xs : List UInt8} (w : World) (hs : Sl KB 0 w.heap.size w A n xs) (hnc : n ≤ c) (hn : n ≤ 1000000) :
    Ret Tryz.prog 130 #[.slice A n c, .func (.func 131) #[] #[]] w fun r w' => ∃ v, r = .tuple #[v, .int .i64 (if (pFrom xs).isSome then (n : Int) else 0), .int .i64 (if (pFrom xs).isSome then 0 else 30)] ∧ Mine KV 90 (fun k => w.heap.size ≤ k) 0 0 w' v ((pFrom xs).getD []) ∧ Keep w w' := by
  refine (take_tup (fun xs => (pFrom xs).map fun l => (l, [])) (fun wb a v w1 => Mine KV 90 (fun k => wb.heap.size ≤ k) 0 0 w1 v a ∧ (∀ u ∈ a, okV u) ∧ isT a = true) 131 [] Tryz.call131 xs A n c w hs hnc hn (fun wb a v w1 h => mineV1 h.1)
    (fun wb a v w1 w2 U h x hU => ⟨h.1.ext x (fun k _ hk => by omega) (fun k hk hu => by have := hU k hu; omega), h.2⟩) (fun w' rb hk hR => fromKey1_c rb rb n xs w' hR)).mono fun r w' h => ?_
  obtain ⟨h, hk⟩ := h
  cases hp : pFrom xs with
  | none =>
    simp only [hp, Option.map_none] at h
    exact ⟨_, h, Mine.nil _ _ _ _ _ _, hk⟩
  | some l =>
    simp only [hp, Option.map_some] at h
    obtain ⟨v, wb, h1, h2, h3, _⟩ := h
    exact ⟨v, by rw [h1]; simp, h2.1.mono (fun k _ hk' => Nat.le_trans h3.size hk'), hk⟩
set_option maxHeartbeats 4000000 in
set_option maxRecDepth 100000 in
theorem FromKey_c {A : Option Addr} {n c : Nat} {xs : List UInt8} (w : World) (hs : Sl KB 0 w.heap.size w A n xs) (hnc : n ≤ c) (hn : n ≤ 1000000) :
    Ret Tryz.prog 96 #[.slice A n c] w fun r w' => ∃ v, r = .tuple #[v, .int .i64 (if (pFrom xs).isSome then 0 else 30)] ∧ Mine KV 90 (fun k => w.heap.size ≤ k) 0 0 w' v ((pFrom xs).getD []) ∧ Keep w w' := by
  refine X.enter Tryz.func96 rfl Tryz.ntmps96 rfl ?_
  refine X.seq ?_
  refine X.region ?_
  refine X.opw X.wN rfl (X.assign rfl) ?_
  refine X.opw X.wN rfl (X.assign rfl) ?_
  refine X.opsEnd ?_
  refine X.seq ?_
  refine X.region ?_
  refine X.opw X.wN rfl (X.move (v := .slice _ _ _) rfl) ?_
  refine X.opE X.wN rfl (X.callE (takeKey_c _ hs hnc hn) Tryz.call130 rfl rfl) ?_
  rintro _ w1 ⟨v1, rfl, hM1, hk1⟩
  have hk1' := hk1.size
  refine X.opw X.wN rfl (X.move rfl) ?_
  refine X.opw X.wN rfl (X.extr rfl rfl) ?_
  refine X.opw X.wN rfl (X.extr rfl rfl) ?_
  refine X.opw X.wN rfl (X.extr rfl rfl) ?_
  refine X.opw X.wN rfl (X.assign rfl) ?_
  refine X.opw X.wN rfl (X.assign (v := .int .i64 _) rfl) ?_
  refine X.opw X.wN rfl (X.assign (v := .int .i64 _) rfl) ?_
  refine X.opsEnd ?_
  refine X.seq ?_
  refine X.region ?_
  refine X.opw X.wN rfl (X.move rfl) ?_
  refine X.opw X.wN rfl (X.move (v := .int .i64 _) rfl) ?_
  refine X.opw X.wN rfl (X.assign rfl) ?_
  refine X.opw X.wN rfl (X.assign (v := .int .i64 _) rfl) ?_
  refine X.opsEnd ?_
  refine X.ret2 (v2 := (.int .i64 _)) Tryz.func96 Tryz.results96 rfl rfl ?_
  exact ⟨_, rfl, hM1, hk1⟩
end Go.Proofs.YtbljooblpfdbiaaGreatDoor
namespace Go.Proofs.YtbljooblpfdbiaaGreatDoor
open Go Go.Proofs.YtbljooblpfdbiaaGreatDoor.X
theorem pKeys_more : ∀ (n m : Nat) (xs : List UInt8), xs.length ≤ n → xs.length ≤ m → pKeys n xs = pKeys m xs := by
  intro n
  induction n with
  | zero =>
    intro m xs h _
    have : xs = [] := List.eq_nil_of_length_eq_zero (by omega)
    subst this
    cases m <;> rfl
  | succ n ih =>
    intro m xs h hm
    cases xs with
    | nil => cases m <;> rfl
    | cons c xs =>
      simp only [List.length_cons] at h hm
      obtain ⟨m', rfl⟩ : ∃ m', m = m' + 1 := ⟨m - 1, by omega⟩
      rw [pKeys, pKeys]
      cases hk : pKey (c :: xs) with
      | none => rfl
      | some b =>
        obtain ⟨v, ys⟩ := b
        have := pKey_lt hk
        simp only [List.length_cons] at this
        dsimp only at this ⊢
        rw [ih m' ys (by omega) (by omega)]
def pAll (xs : List UInt8) : Option (List VAL) := pKeys xs.length xs
theorem pAll_cons {xs : List UInt8} {v : VAL} {ys : List UInt8} (h : pKey xs = some (v, ys)) : pAll xs = (pAll ys).map fun l => v :: l := by
  have hlt := pKey_lt h
  cases xs with
  | nil => cases h
  | cons c xs =>
    rw [pAll, List.length_cons, pKeys, h]
    dsimp only
    simp only [List.length_cons] at hlt
    rw [pAll, pKeys_more xs.length ys.length ys (by omega) (Nat.le_refl _)]
theorem pFrom_some {l : List UInt8} {s : List VAL} (h : pAll l = some s) : pFrom l = if isT s then some s else none := by
  have e : pKeys l.length l = some s := h
  rw [pFrom, e]
end Go.Proofs.YtbljooblpfdbiaaGreatDoor
namespace Go.Proofs.YtbljooblpfdbiaaGreatDoor
open Go Go.Proofs.YtbljooblpfdbiaaGreatDoor.X
set_option maxHeartbeats 4000000 in
set_option maxRecDepth 100000 in
theorem takeCnt1_c (hi rb T : Nat) (xs : List UInt8) (w : World) (hr : Rd w hi rb T xs) : PP 134 #[.pointer (some ⟨rb, 0, none⟩)] w hi rb T (pCnt xs) (fun a v w' => ∃ u, v = .agg #[u, .int .i64 a.2] ∧ Mine KV 90 (fun k => w.heap.size ≤ k) 0 0 w' u a.1 ∧ (∀ z ∈ a.1, okV z) ∧ a.1.length ≤ 8 ∧ okI a.2) := by
  have hrl := hr.lt
  refine X.enter Tryz.func134 rfl Tryz.ntmps134 rfl ?_
  refine X.seq ?_
  refine X.region ?_
  refine X.opE X.wN rfl (X.allocE Tryz.zeroValue40 rfl) ?_
  rintro _ w1 ⟨rfl, hB1, hk1, hz1⟩
  refine X.opsEnd ?_
  refine X.seq ?_
  refine X.region ?_
  refine X.opw X.wN rfl (X.move rfl) ?_
  refine X.opPR (tuple_c hi rb T _ _ (hr.keep hk1)) X.wN rfl Tryz.call135 rfl (fun b2 hb2 => ?_) (fun hb2 => ?_)
  · rintro v2 w2 ⟨⟨hM2, ho2, hn2⟩, hR2, hx2⟩
    have hx2' := hx2.size
    obtain ⟨a2, ys2⟩ := b2
    simp only at hR2 hn2
    simp only at hM2 ho2
    refine X.opw X.wN rfl (X.assign rfl) ?_
    refine X.opsEnd ?_
    refine X.seq ?_
    refine X.region ?_
    refine X.opw X.wN rfl (X.move rfl) ?_
    refine X.opw X.wN rfl (X.move rfl) ?_
    refine X.opPR (whole_c hi rb T _ _ hR2) X.wN rfl Tryz.call136 rfl (fun b3 hb3 => ?_) (fun hb3 => ?_)
    · rintro _ w3 ⟨⟨rfl, hn3⟩, hR3, hx3⟩
      have hx3' := hx3.size
      obtain ⟨a3, ys3⟩ := b3
      simp only at hR3 hn3
      have q3 := (hM2.ext hx3 zq28 zq28)
      have q3' := q3.slice
      obtain ⟨Az, cz, rfl, hcz, hlz⟩ := q3'
      refine X.opw X.wN rfl (X.buildB (vs := [(0, .slice Az a2.length cz), (1, .int .i64 a3)]) (cs := #[.slice Az a2.length cz, .int .i64 a3]) rfl (by kernel_rfl)) ?_
      refine X.opE X.wN rfl (X.storeNE Tryz.sizeOf40 ((hB1.ext hx2 zq28).ext hx3 zq28) rfl rfl rfl rfl (fun u hu => by simp at hu; rcases hu with rfl | rfl <;> rfl)) ?_
      rintro _ w4 ⟨hB4, hx4, hz4⟩
      refine X.opsEnd ?_
      refine X.ret_unw (X.unwR1 Tryz.func134 Tryz.results134 (X.ResOk.cell rfl (X.lvN Tryz.isAgg40 Tryz.sizeOf40 hB4 rfl)) ?_)
      rw [pCnt, hb2]
      dsimp only
      rw [hb3]
      exact ⟨_, rfl, ⟨_, rfl, Mine.mono (T := fun k => w.heap.size ≤ k) ((hM2.ext hx3 zq28 zq28).ext hx4 zq28 zq28) (fun k h1 h2 => by (try simp only [] at *); omega), ho2, hn2, hn3⟩, (hR3.ext hx4 zq28), (Ext.andThen (Ext.andThen (Ext.andThen (Ext.andThen (Ext.refl (fun k => k = rb) _) hk1 zq23) hx2 zq23) hx3 zq23) hx4 zq23)⟩
    · rintro w3 hx3
      have hx3' := hx3.size
      refine X.unw_pan Tryz.func134 ?_
      first
      | (rw [pCnt, hb2]; exact ⟨rfl, (Ext.andThen (Ext.andThen (Ext.andThen (Ext.refl (fun k => k = rb) _) hk1 zq23) hx2 zq23) hx3 zq23)⟩)
      | (rw [pCnt, hb2]; dsimp only; rw [hb3]; exact ⟨rfl, (Ext.andThen (Ext.andThen (Ext.andThen (Ext.refl (fun k => k = rb) _) hk1 zq23) hx2 zq23) hx3 zq23)⟩)
  · rintro w2 hx2
    have hx2' := hx2.size
    refine X.unw_pan Tryz.func134 ?_
    first
    | (rw [pCnt, hb2]; exact ⟨rfl, (Ext.andThen (Ext.andThen (Ext.refl (fun k => k = rb) _) hk1 zq23) hx2 zq23)⟩)
    | (rw [pCnt, hb2]; dsimp only; rw [hb3]; exact ⟨rfl, (Ext.andThen (Ext.andThen (Ext.refl (fun k => k = rb) _) hk1 zq23) hx2 zq23)⟩)
set_option maxHeartbeats 4000000 in
set_option maxRecDepth 100000 in
theorem zero0_cnt (be bx bn : Nat) (w : World) (hE : Blk w be [.int .i64 0] 27) : Ret Tryz.prog 165 #[.pointer (some ⟨be, 0, none⟩), .pointer (some ⟨bx, 0, none⟩), .pointer (some ⟨bn, 0, none⟩)] w fun _ w' => w' = w := by
  refine X.enter Tryz.func165 rfl Tryz.ntmps165 rfl ?_
  refine X.seq ?_
  refine X.region ?_
  refine X.opw X.wN rfl (X.load1B Tryz.isAgg27 hE rfl rfl) ?_
  refine X.opP X.wN rfl rfl (X.neI rfl rfl) (fun h5 => ?_) (fun h5 => ?_)
  · exact absurd rfl h5
  · refine X.opsEnd ?_
    refine X.condF rfl ?_
    refine X.skip ?_
    refine X.end0 Tryz.func165 Tryz.results165 ?_
    rfl
set_option maxHeartbeats 4000000 in
set_option maxRecDepth 100000 in
theorem zero1_cnt (be bx bn : Nat) (vs : List Value) (k : Value) (w : World) (hE : Blk w be [.int .i64 30] 27) (hX : Blk w bx vs 40) (hvl : vs.length = 2) (hN : Blk w bn [k] 3) (h1 : bx ≠ be) (h2 : bn ≠ be) (h3 : bn ≠ bx) : Ret Tryz.prog 165 #[.pointer (some ⟨be, 0, none⟩), .pointer (some ⟨bx, 0, none⟩), .pointer (some ⟨bn, 0, none⟩)] w
    fun _ w' => Blk w' be [.int .i64 30] 27 ∧ Blk w' bx [.slice none 0 0, .int .i64 0] 40 ∧ Blk w' bn [.int .i64 0] 3 ∧ Ext (fun k => k = bx ∨ k = bn) w w' := by
  have hlx := hX.lt
  have hle := hE.lt
  have hln := hN.lt
  refine X.enter Tryz.func165 rfl Tryz.ntmps165 rfl ?_
  refine X.seq ?_
  refine X.region ?_
  refine X.opw X.wN rfl (X.load1B Tryz.isAgg27 hE rfl rfl) ?_
  refine X.opP X.wN rfl rfl (X.neI rfl rfl) (fun h5 => ?_) (fun h5 => ?_)
  · refine X.opsEnd ?_
    refine X.condT rfl ?_
    refine X.seq ?_
    refine X.region ?_
    refine X.opE X.wN rfl (X.allocE Tryz.zeroValue40 rfl) ?_
    rintro _ w1 ⟨rfl, hB1, hk1, hz1⟩
    refine X.opsEnd ?_
    refine X.region ?_
    refine X.opw X.wN rfl (X.loadNB Tryz.isAgg40 Tryz.sizeOf40 hB1 rfl rfl rfl) ?_
    refine X.opE X.wN rfl (X.storeNE Tryz.sizeOf40 (hX.keep hk1) rfl rfl rfl hvl (fun u hu => by simp at hu; rcases hu with rfl | rfl <;> rfl)) ?_
    rintro _ w2 ⟨hB2, hx2, hz2⟩
    refine X.opE X.wN rfl (X.storeE Tryz.sizeOf3 ((hN.keep hk1).ext hx2 zq28) rfl rfl rfl rfl) ?_
    rintro _ w3 ⟨hB3, hx3, hz3⟩
    refine X.opsEnd ?_
    refine X.end0 Tryz.func165 Tryz.results165 ?_
    exact ⟨(((hE.keep hk1).ext hx2 zq28).ext hx3 zq28), (hB2.ext hx3 zq28), hB3, (Ext.andThen (Ext.andThen (Ext.andThen (Ext.refl (fun k => k = bx ∨ k = bn) _) hk1 zq23) hx2 zq23) hx3 zq23)⟩
  · exact absurd (by decide) h5
set_option maxHeartbeats 4000000 in
set_option maxRecDepth 100000 in
theorem take_cnt {α : Type} (p : List UInt8 → Option (α × List UInt8)) (V : World → α → Value → World → Prop) (G : Nat) (cap : List Value) (hG : ∀ args w, (callFunc G args).run Tryz.prog w = .ok (.enter G args) w) (xs : List UInt8) (A : Option Addr) (n c : Nat) (w : World) (hs : Sl KB 0 w.heap.size w A n xs) (hnc : n ≤ c) (hn : n ≤ 1000000)
    (hV1 : ∀ wb a v w1, V wb a v w1 → ∃ vs : List Value, v = .agg vs.toArray ∧ vs.length = 2 ∧ ∀ u, u ∈ vs → u.oneCell' = true) (hV2 : ∀ wb a v w1 w2 U, V wb a v w1 → Ext U w1 w2 → (∀ k, U k → k < wb.heap.size) → V wb a v w2)
    (hP : ∀ w' rb, Keep w w' → Rd w' rb rb n xs → PP G ([Value.pointer (some ⟨rb, 0, none⟩)] ++ cap).toArray w' rb rb n (p xs) (V w')) :
    Ret Tryz.prog 133 #[.slice A n c, .func (.func G) #[] cap.toArray] w fun r w' => (match p xs with
      | some (a, ys) => ∃ v wb, r = .tuple #[v, .int .i64 ((n : Int) - (ys.length : Int)), .int .i64 0] ∧ V wb a v w' ∧ Keep w wb ∧ wb.heap.size ≤ w'.heap.size
      | none => r = .tuple #[.agg #[.slice none 0 0, .int .i64 0], .int .i64 0, .int .i64 30]) ∧ Keep w w' := by
  have hl := hs.len
  refine X.enter Tryz.func133 rfl Tryz.ntmps133 rfl ?_
  refine X.seq ?_
  refine X.region ?_
  refine X.opE X.wN rfl (X.allocE Tryz.zeroValue40 rfl) ?_
  rintro _ w1 ⟨rfl, hB1, hk1, hz1⟩
  refine X.opE X.wN rfl (X.allocE Tryz.zeroValue3 rfl) ?_
  rintro _ w2 ⟨rfl, hB2, hk2, hz2⟩
  refine X.opE X.wN rfl (X.allocE Tryz.zeroValue27 rfl) ?_
  rintro _ w3 ⟨rfl, hB3, hk3, hz3⟩
  refine X.opsEnd ?_
  refine X.seq ?_
  refine X.region ?_
  refine X.opw X.wN rfl (X.mkFunc rfl) ?_
  refine X.opDefer X.wN rfl rfl ?_
  refine X.opsEnd ?_
  refine X.seq ?_
  refine X.region ?_
  refine X.opDefer X.wN rfl rfl ?_
  refine X.opsEnd ?_
  refine X.seq ?_
  refine X.region ?_
  refine X.opw X.wN rfl (X.move (v := .slice _ _ _) rfl) ?_
  refine X.opE X.wN rfl (X.callE (over_c _ ((hs.keep ((hk1.trans hk2).trans hk3)).wide (Nat.le_refl _) (by omega)) hnc hn) Tryz.call161 rfl rfl) ?_
  rintro _ w4 ⟨rfl, hR4, hk4, hz4⟩
  refine X.opw X.wN rfl (X.assign rfl) ?_
  refine X.opsEnd ?_
  refine X.seq ?_
  refine X.region ?_
  refine X.opw X.wN rfl (X.move rfl) ?_
  refine X.opw X.wN rfl (X.move rfl) ?_
  refine X.opPRV (vs := [_]) rfl (hP _ _ (((hk1.trans hk2).trans hk3).trans hk4) hR4) X.wN rfl hG rfl (fun b5 hb5 => ?_) (fun hb5 => ?_)
  · rintro v5 w5 ⟨hv5, hR5, hx5⟩
    have hx5' := hx5.size
    obtain ⟨Ar, cr, hr1, hB5, hr2, hr3, hr4, hr5⟩ := hR5
    have hvz := hV1 _ _ _ _ hv5
    obtain ⟨vs, rfl, hvl, hvo⟩ := hvz
    refine X.opE X.wN rfl (X.storeNE Tryz.sizeOf40 ((hB1.keep ((hk2.trans hk3).trans hk4)).ext hx5 zq28) rfl rfl hvl rfl hvo) ?_
    rintro _ w6 ⟨hB6, hx6, hz6⟩
    refine X.opsEnd ?_
    refine X.seq ?_
    refine X.regionD (fun k => k = w.heap.size) 6 (by kernel_rfl) (by kernel_rfl) (fun w7 hk7 hz7 => ?_)
    refine X.dTake 1 rfl (by kernel_rfl) (by kernel_rfl) (by kernel_rfl) (X.dwN rfl) (fun w' hk' => X.move rfl) ?_
    refine X.dTake 2 rfl (by kernel_rfl) (by kernel_rfl) (by kernel_rfl) (X.dwN rfl) (fun w' hk' => X.nilCk rfl) ?_
    refine X.dTake 3 rfl (by kernel_rfl) (by kernel_rfl) (by kernel_rfl) (X.dwN rfl) (fun w' hk' => X.fldB (j := 1) Tryz.underlying208 rfl rfl Tryz.sizeOf3 rfl) ?_
    refine X.dTake 4 rfl (by kernel_rfl) (by kernel_rfl) (by kernel_rfl) (X.dwN rfl) (fun w' hk' => X.load1B Tryz.isAgg3 (((hB5.ext hx6 zq28).keep hk7).ext hk' zq28) rfl rfl) ?_
    refine X.dStep (i := 0) (by kernel_rfl) rfl (X.dwN rfl) (X.loadNB (vs := vs) Tryz.isAgg40 Tryz.sizeOf40 (hB6.keep hk7) rfl (by rw [List.drop_zero, List.take_of_length_le (by omega)]) hvl) (fun _ => Ext.refl _ _) ?_
    refine X.dE (i := 5) (by kernel_rfl) rfl (X.dwN rfl) (X.storeNE Tryz.sizeOf40 (hB6.keep hk7) rfl rfl hvl hvl hvo) (by rintro _ w8 ⟨hB8, hx8, hz8⟩ _; exact hx8) ?_
    rintro _ w8 ⟨hB8, hx8, hz8⟩
    refine X.dE (i := 6) (by kernel_rfl) rfl (X.dwN rfl) (X.storeE Tryz.sizeOf3 (((((hB2.keep (hk3.trans hk4)).ext hx5 zq28).ext hx6 zq28).keep hk7).ext hx8 zq28) rfl rfl rfl rfl) (fun _ _ _ h => absurd h (by decide)) ?_
    rintro _ w9 ⟨hB9, hx9, hz9⟩
    refine X.dE (i := 7) (by kernel_rfl) rfl (X.dwN rfl) (X.storeE Tryz.sizeOf27 ((((((hB3.keep hk4).ext hx5 zq28).ext hx6 zq28).keep hk7).ext hx8 zq28).ext hx9 zq28) rfl rfl rfl rfl) (fun _ _ _ h => absurd h (by decide)) ?_
    rintro _ w10 ⟨hB10, hx10, hz10⟩
    refine X.dEnd (by kernel_rfl) ?_
    refine X.ret_unw ?_
    refine X.unw_defer Tryz.call160 (fun h => by cases h) (caught_0 _ _) ?_
    rintro m wz ⟨rfl, rfl⟩
    show X.Unw _ _ _ FrameMode.returning _ _ _ _
    refine X.unw_defer Tryz.call165 (fun h => by cases h) (X.DCall.of_ret (zero0_cnt _ _ _ _ hB10)) ?_
    rintro m wz ⟨rfl, vz, rfl⟩
    show X.Unw _ _ _ FrameMode.returning _ _ _ _
    refine X.unwR3 Tryz.func133 Tryz.results133 (X.ResOk.cell rfl (X.lvN Tryz.isAgg40 Tryz.sizeOf40 ((hB8.ext hx9 zq28).ext hx10 zq28) hvl)) (X.ResOk.cell rfl (X.lv1 Tryz.isAgg3 (hB9.ext hx10 zq28) rfl)) (X.ResOk.cell rfl (X.lv1 Tryz.isAgg27 hB10 rfl)) ?_
    refine ⟨?_, (((((((((hk1.trans hk2).trans hk3).trans hk4).step hx5 zq26).step hx6 zq26).trans hk7).step hx8 zq26).step hx9 zq26).step hx10 zq26)⟩
    rw [hb5]
    obtain ⟨a5, ys5⟩ := b5
    exact ⟨_, w4, rfl, hV2 _ _ _ _ _ _ (hV2 _ _ _ _ _ _ (hV2 _ _ _ _ _ _ (hV2 _ _ _ _ _ _ (hV2 _ _ _ _ _ _ hv5 hx6 zq24) hk7 zq24) hx8 zq24) hx9 zq24) hx10 zq24, (((hk1.trans hk2).trans hk3).trans hk4), by omega⟩
  · rintro w5 hx5
    have hx5' := hx5.size
    refine X.unw_defer Tryz.call160 (fun h => by cases h) (caught_1 _ _ _ ((hB3.keep hk4).ext hx5 zq28)) ?_
    rintro m wz ⟨rfl, hBz, hxz⟩
    have hxz' := hxz.size
    show X.Unw _ _ _ FrameMode.returning _ _ _ _
    refine X.unw_defer Tryz.call165 (fun h => by cases h) (X.DCall.of_ret (zero1_cnt _ _ _ _ _ _ hBz (((hB1.keep ((hk2.trans hk3).trans hk4)).ext hx5 zq28).ext hxz zq28) rfl (((hB2.keep (hk3.trans hk4)).ext hx5 zq28).ext hxz zq28) (by omega) (by omega) (by omega))) ?_
    rintro m wq ⟨rfl, vq, hq1, hq2, hq3, hq4⟩
    show X.Unw _ _ _ FrameMode.returning _ _ _ _
    refine X.unwR3 Tryz.func133 Tryz.results133 (X.ResOk.cell rfl (X.lvN Tryz.isAgg40 Tryz.sizeOf40 hq2 rfl)) (X.ResOk.cell rfl (X.lv1 Tryz.isAgg3 hq3 rfl)) (X.ResOk.cell rfl (X.lv1 Tryz.isAgg27 hq1 rfl)) ?_
    refine ⟨?_, ((((((hk1.trans hk2).trans hk3).trans hk4).step hx5 zq26).step hxz zq26).step hq4 zq26)⟩
    rw [hb5]
end Go.Proofs.YtbljooblpfdbiaaGreatDoor
namespace Go.Proofs.YtbljooblpfdbiaaGreatDoor
open Go Go.Proofs.YtbljooblpfdbiaaGreatDoor.X
def cnt {α : Type} (o : Option (α × List UInt8)) (n : Nat) : Int := match o with
  | some b => (n : Int) - (b.2.length : Int)
  | none => 0
def code {α : Type} (o : Option (α × List UInt8)) : Int := if o.isSome then 0 else 30
def told {α : Type} (o : Option (α × List UInt8)) (z : α) : α := match o with
  | some b => b.1
  | none => z
set_option maxHeartbeats 4000000 in
set_option maxRecDepth 100000 in
theorem takeNum1_c (hi rb T : Nat) (xs : List UInt8) (w : World) (hr : Rd w hi rb T xs) : PP 157 #[.pointer (some ⟨rb, 0, none⟩)] w hi rb T (pNum 0 0 xs) (fun a v _ => v = .int .u64 ((a : Nat) : Int)) := by
  have hrl := hr.lt
  refine X.enter Tryz.func157 rfl Tryz.ntmps157 rfl ?_
  refine X.seq ?_
  refine X.region ?_
  refine X.opw X.wN rfl (X.assign rfl) ?_
  refine X.opsEnd ?_
  refine X.seq ?_
  refine X.region ?_
  refine X.opw X.wN rfl (X.move rfl) ?_
  refine X.opPR (num_c hi rb T _ _ hr) X.wN rfl Tryz.call158 rfl (fun b1 hb1 => ?_) (fun hb1 => ?_)
  · rintro _ w1 ⟨⟨rfl, hn1⟩, hR1, hx1⟩
    have hx1' := hx1.size
    refine X.opw X.wN rfl (X.assign (v := .int .u64 _) rfl) ?_
    refine X.opsEnd ?_
    refine X.ret1 (v := (.int .u64 _)) Tryz.func157 Tryz.results157 rfl ?_
    rw [hb1]
    exact ⟨_, rfl, rfl, hR1, (Ext.andThen (Ext.refl (fun k => k = rb) _) hx1 zq23)⟩
  · rintro w1 hx1
    have hx1' := hx1.size
    refine X.unw_pan Tryz.func157 ?_
    rw [hb1]
    exact ⟨rfl, (Ext.andThen (Ext.refl (fun k => k = rb) _) hx1 zq23)⟩
set_option maxHeartbeats 4000000 in
set_option maxRecDepth 100000 in
theorem takeText1_c (most : Int) (hmo : okI most) (bm : Nat) (hi rb T : Nat) (xs : List UInt8) (w : World) (hr : Rd w hi rb T xs) (hB : Blk w bm [.int .i64 most] 3) : PP 128 #[.pointer (some ⟨rb, 0, none⟩), .pointer (some ⟨bm, 0, none⟩)] w hi rb T (pText most xs) (fun a v w' => Mine KB 5 (fun k => w.heap.size ≤ k) 0 0 w' v a) := by
  have hrl := hr.lt
  refine X.enter Tryz.func128 rfl Tryz.ntmps128 rfl ?_
  refine X.seq ?_
  refine X.region ?_
  refine X.opw X.wN rfl (X.assign rfl) ?_
  refine X.opsEnd ?_
  refine X.seq ?_
  refine X.region ?_
  refine X.opw X.wN rfl (X.move rfl) ?_
  refine X.opw X.wN rfl (X.load1B Tryz.isAgg3 hB rfl rfl) ?_
  refine X.opPR (text_c most hmo hi rb T _ _ hr) X.wN rfl Tryz.call129 rfl (fun b1 hb1 => ?_) (fun hb1 => ?_)
  · rintro v1 w1 ⟨hM1, hR1, hx1⟩
    have hx1' := hx1.size
    refine X.opw X.wN rfl (X.assign rfl) ?_
    refine X.opsEnd ?_
    refine X.ret1 Tryz.func128 Tryz.results128 rfl ?_
    rw [hb1]
    exact ⟨_, rfl, hM1, hR1, (Ext.andThen (Ext.refl (fun k => k = rb) _) hx1 zq23)⟩
  · rintro w1 hx1
    have hx1' := hx1.size
    refine X.unw_pan Tryz.func128 ?_
    rw [hb1]
    exact ⟨rfl, (Ext.andThen (Ext.refl (fun k => k = rb) _) hx1 zq23)⟩
theorem tNum_c {A : Option Addr} {n c : Nat} {xs : List UInt8} (w : World) (hs : Sl KB 0 w.heap.size w A n xs) (hnc : n ≤ c) (hn : n ≤ 1000000) :
    Ret Tryz.prog 156 #[.slice A n c, .func (.func 157) #[] #[]] w fun r w' => r = .tuple #[.int .u64 ((told (pNum 0 0 xs) 0 : Nat) : Int), .int .i64 (cnt (pNum 0 0 xs) n), .int .i64 (code (pNum 0 0 xs))] ∧ Keep w w' := by
  refine (take_u64 (pNum 0 0) (fun _ a v _ => v = .int .u64 ((a : Nat) : Int)) 157 [] Tryz.call157 xs A n c w hs hnc hn (fun wb a v w1 h => by rw [h]; rfl) (fun wb a v w1 w2 U h x hU => h) (fun w' rb hk hR => takeNum1_c rb rb n xs w' hR)).mono fun r w' h => ?_
  obtain ⟨h, hk⟩ := h
  cases hp : pNum 0 0 xs with
  | none => rw [hp] at h; exact ⟨h, hk⟩
  | some b => obtain ⟨a, ys⟩ := b; rw [hp] at h; obtain ⟨v, wb, h1, h2, _⟩ := h; subst h2; exact ⟨h1, hk⟩
theorem tCnt_c {A : Option Addr} {n c : Nat} {xs : List UInt8} (w : World) (hs : Sl KB 0 w.heap.size w A n xs) (hnc : n ≤ c) (hn : n ≤ 1000000) :
    Ret Tryz.prog 133 #[.slice A n c, .func (.func 134) #[] #[]] w fun r w' => ∃ v, r = .tuple #[.agg #[v, .int .i64 (told (pCnt xs) ([], 0)).2], .int .i64 (cnt (pCnt xs) n), .int .i64 (code (pCnt xs))] ∧ Mine KV 90 (fun k => w.heap.size ≤ k) 0 0 w' v (told (pCnt xs) ([], 0)).1 ∧ Keep w w' := by
  refine (take_cnt pCnt (fun wb a v w1 => ∃ u, v = .agg #[u, .int .i64 a.2] ∧ Mine KV 90 (fun k => wb.heap.size ≤ k) 0 0 w1 u a.1 ∧ (∀ z ∈ a.1, okV z) ∧ a.1.length ≤ 8 ∧ okI a.2) 134 [] Tryz.call134 xs A n c w hs hnc hn
    (fun wb a v w1 ⟨u, e, h, _⟩ => ⟨[u, .int .i64 a.2], e, rfl, fun z hz => by simp at hz; rcases hz with rfl | rfl; exact mineV1 h; rfl⟩)
    (fun wb a v w1 w2 U ⟨u, e, h, h'⟩ x hU => ⟨u, e, h.ext x (fun k _ hk => by omega) (fun k hk hu => by have := hU k hu; omega), h'⟩) (fun w' rb hk hR => takeCnt1_c rb rb n xs w' hR)).mono fun r w' h => ?_
  obtain ⟨h, hk⟩ := h
  cases hp : pCnt xs with
  | none => rw [hp] at h; exact ⟨_, h, Mine.nil _ _ _ _ _ _, hk⟩
  | some b => obtain ⟨a, ys⟩ := b; rw [hp] at h; obtain ⟨v, wb, h1, ⟨u, e, h2, _⟩, h3, _⟩ := h; subst e; exact ⟨u, h1, h2.mono (fun k _ hk' => Nat.le_trans h3.size hk'), hk⟩
set_option maxHeartbeats 4000000 in
set_option maxRecDepth 100000 in
theorem TakeNum_c {A : Option Addr} {n c : Nat} {xs : List UInt8} (w : World) (hs : Sl KB 0 w.heap.size w A n xs) (hnc : n ≤ c) (hn : n ≤ 1000000) : Ret Tryz.prog 126 #[.slice A n c] w fun r w' => r = .tuple #[.int .u64 ((told (pNum 0 0 xs) 0 : Nat) : Int), .int .i64 (cnt (pNum 0 0 xs) n), .int .i64 (code (pNum 0 0 xs))] ∧ Keep w w' := by
  refine X.enter Tryz.func126 rfl Tryz.ntmps126 rfl ?_
  refine X.seq ?_
  refine X.region ?_
  refine X.opw X.wN rfl (X.assign rfl) ?_
  refine X.opw X.wN rfl (X.assign rfl) ?_
  refine X.opw X.wN rfl (X.assign rfl) ?_
  refine X.opsEnd ?_
  refine X.seq ?_
  refine X.region ?_
  refine X.opw X.wN rfl (X.move (v := .slice _ _ _) rfl) ?_
  refine X.opE X.wN rfl (X.callE (tNum_c _ hs hnc hn) Tryz.call156 rfl rfl) ?_
  rintro _ w1 ⟨rfl, hk1⟩
  have hk1' := hk1.size
  refine X.opw X.wN rfl (X.extr rfl rfl) ?_
  refine X.opw X.wN rfl (X.extr rfl rfl) ?_
  refine X.opw X.wN rfl (X.extr rfl rfl) ?_
  refine X.opw X.wN rfl (X.assign (v := .int .u64 _) rfl) ?_
  refine X.opw X.wN rfl (X.assign (v := .int .i64 _) rfl) ?_
  refine X.opw X.wN rfl (X.assign (v := .int .i64 _) rfl) ?_
  refine X.opsEnd ?_
  refine X.ret3 (v1 := (.int .u64 _)) (v2 := (.int .i64 _)) (v3 := (.int .i64 _)) Tryz.func126 Tryz.results126 rfl rfl rfl ?_
  exact ⟨rfl, hk1⟩
theorem tText_c (most : Int) (hmo : okI most) (bm : Nat) {A : Option Addr} {n c : Nat} {xs : List UInt8} (w : World) (hB : Blk w bm [.int .i64 most] 3) (hs : Sl KB 0 w.heap.size w A n xs) (hnc : n ≤ c) (hn : n ≤ 1000000) :
    Ret Tryz.prog 127 #[.slice A n c, .func (.func 128) #[] #[.pointer (some ⟨bm, 0, none⟩)]] w fun r w' => ∃ v, r = .tuple #[v, .int .i64 (cnt (pText most xs) n), .int .i64 (code (pText most xs))] ∧ Mine KB 5 (fun k => w.heap.size ≤ k) 0 0 w' v (told (pText most xs) []) ∧ Keep w w' := by
  refine (take_row (pText most) (fun wb a v w1 => Mine KB 5 (fun k => wb.heap.size ≤ k) 0 0 w1 v a) 128 [.pointer (some ⟨bm, 0, none⟩)] Tryz.call128 xs A n c w hs hnc hn (fun wb a v w1 h => mineV1 h)
    (fun wb a v w1 w2 U h x hU => h.ext x (fun k _ hk => by omega) (fun k hk hu => by have := hU k hu; omega)) (fun w' rb hk hR => takeText1_c most hmo bm rb rb n xs w' hR (hB.keep hk))).mono fun r w' h => ?_
  obtain ⟨h, hk⟩ := h
  cases hp : pText most xs with
  | none => rw [hp] at h; exact ⟨_, h, Mine.nil _ _ _ _ _ _, hk⟩
  | some b => obtain ⟨a, ys⟩ := b; rw [hp] at h; obtain ⟨v, wb, h1, h2, h3, _⟩ := h; exact ⟨v, h1, h2.mono (fun k _ hk' => Nat.le_trans h3.size hk'), hk⟩
set_option maxHeartbeats 4000000 in
set_option maxRecDepth 100000 in
theorem TakeText_c (most : Int) (hmo : okI most) {A : Option Addr} {n c : Nat} {xs : List UInt8} (w : World) (hs : Sl KB 0 w.heap.size w A n xs) (hnc : n ≤ c) (hn : n ≤ 1000000) : Ret Tryz.prog 95 #[.slice A n c, .int .i64 most] w fun r w' => ∃ v, r = .tuple #[v, .int .i64 (cnt (pText most xs) n), .int .i64 (code (pText most xs))] ∧ Mine KB 5 (fun k => w.heap.size ≤ k) 0 0 w' v (told (pText most xs) []) ∧ Keep w w' := by
  refine X.enter Tryz.func95 rfl Tryz.ntmps95 rfl ?_
  refine X.seq ?_
  refine X.region ?_
  refine X.opE X.wN rfl (X.boxE rfl rfl) ?_
  rintro _ w1 ⟨rfl, hB1, hk1, hz1⟩
  refine X.opw X.wN rfl (X.assign rfl) ?_
  refine X.opw X.wN rfl (X.assign rfl) ?_
  refine X.opw X.wN rfl (X.assign rfl) ?_
  refine X.opsEnd ?_
  refine X.seq ?_
  refine X.region ?_
  refine X.opw X.wN rfl (X.move (v := .slice _ _ _) rfl) ?_
  refine X.opw X.wN rfl (X.mkFunc rfl) ?_
  refine X.opE X.wN rfl (X.callE (tText_c most hmo _ _ hB1 ((hs.keep hk1).wide (Nat.le_refl _) (by omega)) hnc hn) Tryz.call127 rfl rfl) ?_
  rintro _ w2 ⟨v2, rfl, hM2, hk2⟩
  have hk2' := hk2.size
  refine X.opw X.wN rfl (X.extr rfl rfl) ?_
  refine X.opw X.wN rfl (X.extr rfl rfl) ?_
  refine X.opw X.wN rfl (X.extr rfl rfl) ?_
  refine X.opw X.wN rfl (X.assign rfl) ?_
  refine X.opw X.wN rfl (X.assign (v := .int .i64 _) rfl) ?_
  refine X.opw X.wN rfl (X.assign (v := .int .i64 _) rfl) ?_
  refine X.opsEnd ?_
  refine X.ret3 (v2 := (.int .i64 _)) (v3 := (.int .i64 _)) Tryz.func95 Tryz.results95 rfl rfl rfl ?_
  exact ⟨_, rfl, Mine.mono (T := fun k => w.heap.size ≤ k) hM2 (fun k h1 h2 => by (try simp only [] at *); omega), (hk1.trans hk2)⟩
set_option maxHeartbeats 4000000 in
set_option maxRecDepth 100000 in
theorem TakeCounted_c {A : Option Addr} {n c : Nat} {xs : List UInt8} (w : World) (hs : Sl KB 0 w.heap.size w A n xs) (hnc : n ≤ c) (hn : n ≤ 1000000) : Ret Tryz.prog 98 #[.slice A n c] w fun r w' => ∃ v, r = .tuple #[.agg #[v, .int .i64 (told (pCnt xs) ([], 0)).2], .int .i64 (cnt (pCnt xs) n), .int .i64 (code (pCnt xs))] ∧ Mine KV 90 (fun k => w.heap.size ≤ k) 0 0 w' v (told (pCnt xs) ([], 0)).1 ∧ Keep w w' := by
  refine X.enter Tryz.func98 rfl Tryz.ntmps98 rfl ?_
  refine X.seq ?_
  refine X.region ?_
  refine X.opE X.wN rfl (X.allocE Tryz.zeroValue40 rfl) ?_
  rintro _ w1 ⟨rfl, hB1, hk1, hz1⟩
  refine X.opw X.wN rfl (X.assign rfl) ?_
  refine X.opw X.wN rfl (X.assign rfl) ?_
  refine X.opsEnd ?_
  refine X.seq ?_
  refine X.region ?_
  refine X.opw X.wN rfl (X.move (v := .slice _ _ _) rfl) ?_
  refine X.opE X.wN rfl (X.callE (tCnt_c _ ((hs.keep hk1).wide (Nat.le_refl _) (by omega)) hnc hn) Tryz.call133 rfl rfl) ?_
  rintro _ w2 ⟨v2, rfl, hM2, hk2⟩
  have hk2' := hk2.size
  refine X.opw X.wN rfl (X.extr rfl rfl) ?_
  refine X.opw X.wN rfl (X.extr rfl rfl) ?_
  refine X.opw X.wN rfl (X.extr rfl rfl) ?_
  refine X.opE X.wN rfl (X.storeNE Tryz.sizeOf40 (hB1.keep hk2) rfl rfl rfl rfl (fun u hu => by simp at hu; rcases hu with rfl | rfl; exact mineV1 hM2; rfl)) ?_
  rintro _ w3 ⟨hB3, hx3, hz3⟩
  refine X.opw X.wN rfl (X.assign (v := .int .i64 _) rfl) ?_
  refine X.opw X.wN rfl (X.assign (v := .int .i64 _) rfl) ?_
  refine X.opsEnd ?_
  refine X.ret_unw (X.unwR3 Tryz.func98 Tryz.results98 (X.ResOk.cell rfl (X.lvN Tryz.isAgg40 Tryz.sizeOf40 hB3 rfl)) (show X.ResOk _ _ _ (.tmp 3) _ from rfl) (show X.ResOk _ _ _ (.tmp 4) _ from rfl) ?_)
  exact ⟨_, rfl, Mine.mono (T := fun k => w.heap.size ≤ k) (hM2.ext hx3 zq28 zq28) (fun k h1 h2 => by (try simp only [] at *); omega), ((hk1.trans hk2).step hx3 zq26)⟩
end Go.Proofs.YtbljooblpfdbiaaGreatDoor
namespace Go.Proofs.YtbljooblpfdbiaaGreatDoor
open Go Go.Proofs.YtbljooblpfdbiaaGreatDoor.X
theorem pNum_back : ∀ (x i acc : Nat) (s : List UInt8), i ≤ 9 → x * 128 ^ i < 18446744073709551616 → (0 < i → 0 < x) → pNum i acc (numB x ++ s) = some (acc + x * 128 ^ i, s) := by
  intro x
  induction x using Nat.strongRecOn with
  | _ x ih =>
    intro i acc s hi hb h0
    obtain ⟨p1, p2, p3, p4⟩ := pow128 i hi
    have h9 : i = 9 → x ≤ 1 := by
      intro e
      have := p4 e
      rw [this] at hb
      omega
    rw [numB.eq_def]
    by_cases hx : x < 128
    · have hc : (UInt8.ofNat x).toNat = x := by rw [UInt8.toNat_ofNat']; omega
      rw [if_pos hx, List.singleton_append, pNum, hc, if_neg (by omega), if_pos hx, Nat.mod_eq_of_lt hx]
    · have hc : (UInt8.ofNat (x % 128 + 128)).toNat = x % 128 + 128 := by rw [UInt8.toNat_ofNat']; omega
      have hx8 : i ≤ 8 := by omega
      rw [if_neg hx, List.cons_append, pNum, hc, if_neg (by omega), if_neg (by omega)]
      have e1 : (x % 128 + 128) % 128 = x % 128 := by omega
      have e2 : x / 128 * 128 ^ (i + 1) + x % 128 * 128 ^ i = x * 128 ^ i := by
        rw [← p1, ← Nat.mul_assoc, Nat.mul_comm (x / 128 * 128 ^ i) 128, ← Nat.mul_assoc, ← Nat.add_mul, Nat.mul_comm 128]
        congr 1; omega
      rw [e1, ih (x / 128) (by omega) (i + 1) _ s (by omega) (by omega) (fun _ => by omega)]
      congr 2
      omega
theorem pNum_0 (x : Nat) (s : List UInt8) (h : x < 18446744073709551616) : pNum 0 0 (numB x ++ s) = some (x, s) := by
  have := pNum_back x 0 0 s (by omega) (by omega) (fun h => by omega)
  simpa using this
theorem pNum_just : ∀ (xs : List UInt8) (i acc : Nat) (b : Nat × List UInt8), pNum i acc xs = some b → ∃ d, b.1 = acc + d * 128 ^ i ∧ xs = numB d ++ b.2 ∧ (0 < i → 0 < d) := by
  intro xs
  induction xs with
  | nil => intro i acc b h; cases h
  | cons c xs ih =>
    intro i acc b h
    rw [pNum] at h
    split at h
    · cases h
    · rename_i hf
      have hc := c.toNat_lt
      split at h
      · rename_i hl
        cases h
        refine ⟨c.toNat, by rw [Nat.mod_eq_of_lt hl], ?_, fun h => by omega⟩
        rw [numB, if_pos hl, List.singleton_append, UInt8.ofNat_toNat]
      · rename_i hl
        obtain ⟨d, h1, h2, h3⟩ := ih _ _ _ h
        have hd := h3 (by omega)
        refine ⟨d * 128 + c.toNat % 128, ?_, ?_, fun _ => by omega⟩
        · rw [h1, Nat.add_mul, Nat.mul_assoc, Nat.mul_comm 128, ← Nat.pow_succ]; show _ = acc + (d * 128 ^ (i + 1) + _); omega
        · rw [numB, if_neg (by omega), List.cons_append, show (d * 128 + c.toNat % 128) / 128 = d by omega, h2]
          congr 1
          apply UInt8.toNat_inj.1
          rw [UInt8.toNat_ofNat']; omega
theorem pNum_j {xs : List UInt8} {b : Nat × List UInt8} (h : pNum 0 0 xs = some b) : xs = numB b.1 ++ b.2 := by
  obtain ⟨d, h1, h2, _⟩ := pNum_just xs 0 0 b h
  rw [show b.1 = d by simpa using h1]; exact h2
theorem pNum_lt : ∀ (xs : List UInt8) (i acc : Nat) (b : Nat × List UInt8), i ≤ 9 → acc < 128 ^ i → pNum i acc xs = some b → b.1 < 18446744073709551616 := by
  intro xs
  induction xs with
  | nil => intro i acc b _ _ h; cases h
  | cons c xs ih =>
    intro i acc b hi ha h
    rw [pNum] at h
    split at h
    · cases h
    · rename_i hf
      obtain ⟨n1, n2, n3⟩ := num_bound c hi ha (by omega)
      split at h
      · cases h; exact n1
      · rename_i hl
        exact ih (i + 1) _ b (by have := n3 (by omega); omega) n2 h
theorem zig_unzig (x : Int) (h : okI x) : unzig (zig x).toNat = x := by
  unfold okI at h; unfold unzig zig; split <;> split <;> omega
theorem unzig_zig (a : Nat) : (zig (unzig a)).toNat = a := by
  unfold unzig zig; split <;> split <;> omega
theorem pInt_back (x : Int) (h : okI x) (s : List UInt8) : pInt (numB (zig x).toNat ++ s) = some (x, s) := by
  have := zig_ok x h
  rw [pInt, pNum_0 _ s (by omega)]
  simp [zig_unzig x h]
theorem pInt_just {xs : List UInt8} {b : Int × List UInt8} (h : pInt xs = some b) : xs = numB (zig b.1).toNat ++ b.2 ∧ okI b.1 := by
  rw [pInt] at h
  obtain ⟨q, hq, rfl⟩ := Option.map_eq_some_iff.1 h
  exact ⟨by rw [unzig_zig]; exact pNum_j hq, unzig_ok (pNum_lt xs 0 0 q (by omega) (by simp) hq)⟩
theorem pText_back (most : Int) (l s : List UInt8) (h1 : (l.length : Int) ≤ most) (h2 : l.length ≤ 1048576) : pText most (textB l ++ s) = some (l, s) := by
  rw [pText, textB, List.append_assoc, pNum_0 _ _ (by omega)]
  dsimp only
  rw [if_neg (by rw [List.length_append]; omega)]
  simp
theorem pText_just {most : Int} {xs : List UInt8} {b : List UInt8 × List UInt8} (h : pText most xs = some b) : xs = textB b.1 ++ b.2 ∧ (b.1.length : Int) ≤ most ∧ b.1.length ≤ 1048576 := by
  unfold pText at h
  split at h
  · cases h
  · rename_i a ys hq
    split at h
    · cases h
    · rename_i hf
      cases h
      have hj := pNum_j hq
      dsimp only at hj ⊢
      have hl : (ys.take a).length = a := by rw [List.length_take]; omega
      rw [textB, hl, List.append_assoc, List.take_append_drop]
      exact ⟨hj, by omega, by omega⟩
theorem sym_of (l : List UInt8) : (⟨l.toArray⟩ : ByteArray).data.toList = l := by simp
theorem arr_of (s : ByteArray) : (⟨s.data.toList.toArray⟩ : ByteArray) = s := by
  obtain ⟨⟨l⟩⟩ := s; rfl
theorem pVal_back {v : VAL} (hv : isV v = true) (ho : okV v) (s : List UInt8) : pVal (valB v ++ s) = some (v, s) := by
  obtain ⟨k, n, t⟩ := v
  rcases isV_cases hv with ⟨h1, h2⟩ | ⟨h1, h2, h3⟩ <;> simp only at h1 h2 <;> subst h1 h2
  · rw [valB, if_pos rfl, List.cons_append, pVal, if_pos (by decide), pInt_back _ ho.2.1]; rfl
  · have hl := sym_len t
    rw [valB, if_neg (by simp), List.cons_append, pVal, if_neg (by decide), if_pos (by decide), pText_back _ _ _ (show (t.data.toList.length : Int) ≤ 256 by simp only at h3; omega) (show t.data.toList.length ≤ 1048576 by simp only at h3; omega)]
    simp only [Option.map_some, arr_of]
theorem pVal_just {xs : List UInt8} {b : VAL × List UInt8} (h : pVal xs = some b) : xs = valB b.1 ++ b.2 ∧ isV b.1 = true ∧ okV b.1 := by
  cases xs with
  | nil => cases h
  | cons c xs =>
    rw [pVal] at h
    split at h
    · rename_i hc
      obtain ⟨q, hq, rfl⟩ := Option.map_eq_some_iff.1 h
      obtain ⟨h1, h2⟩ := pInt_just hq
      have hc1 : c = 1 := UInt8.toNat_inj.1 hc
      refine ⟨?_, by simp [isV], by simp [okI], h2, by simp [ByteArray.size]⟩
      rw [valB, if_pos rfl, hc1, List.cons_append, ← h1]
    · split at h
      · rename_i hc
        obtain ⟨q, hq, rfl⟩ := Option.map_eq_some_iff.1 h
        obtain ⟨h1, h2, h3⟩ := pText_just hq
        have hc1 : c = 2 := UInt8.toNat_inj.1 hc
        have hs : (⟨q.1.toArray⟩ : ByteArray).size = q.1.length := by show q.1.toArray.size = _; simp
        refine ⟨?_, decide_eq_true (.inr ⟨rfl, rfl, by dsimp only; rw [hs]; omega⟩), by simp [okI], by simp [okI], by dsimp only; rw [hs]; omega⟩
        rw [valB, if_neg (by simp), hc1, List.cons_append, sym_of, ← h1]
      · cases h
theorem pVals_back : ∀ (l : List VAL) (s : List UInt8), (∀ v ∈ l, isV v = true ∧ okV v) → pVals l.length (l.flatMap valB ++ s) = some (l, s)
  | [], s, _ => rfl
  | v :: l, s, h => by
    have hv := h v List.mem_cons_self
    rw [List.length_cons, pVals, List.flatMap_cons, List.append_assoc, pVal_back hv.1 hv.2]
    dsimp only
    rw [pVals_back l s (fun u hu => h u (List.mem_cons_of_mem _ hu))]; rfl
theorem pVals_just : ∀ (n : Nat) (xs : List UInt8) (b : List VAL × List UInt8), pVals n xs = some b → xs = b.1.flatMap valB ++ b.2 ∧ b.1.length = n ∧ ∀ v ∈ b.1, isV v = true ∧ okV v := by
  intro n
  induction n with
  | zero => intro xs b h; cases h; exact ⟨rfl, rfl, by simp⟩
  | succ n ih =>
    intro xs b h
    rw [pVals] at h
    split at h
    · cases h
    · rename_i v ys hv
      obtain ⟨q, hq, rfl⟩ := Option.map_eq_some_iff.1 h
      obtain ⟨h1, h2, h3⟩ := pVal_just hv
      obtain ⟨h4, h5, h6⟩ := ih ys q hq
      dsimp only at h1 h2 h3 ⊢
      refine ⟨by rw [h1, List.flatMap_cons, List.append_assoc, ← h4], by rw [List.length_cons, h5], fun u hu => ?_⟩
      rcases List.mem_cons.1 hu with rfl | hu
      · exact ⟨h2, h3⟩
      · exact h6 u hu
theorem isT_of {l : List VAL} (h : ∀ v ∈ l, isV v = true) (hl : l.length ≤ 8) : isT l = true := by
  simp only [isT, Bool.and_eq_true, List.all_eq_true, decide_eq_true_eq]
  exact ⟨h, hl⟩
theorem pTup_back {l : List VAL} (hl : isT l = true) (ho : ∀ v ∈ l, okV v) (s : List UInt8) : pTup (tupB l ++ s) = some (l, s) := by
  have h8 := isT_len hl
  have hc : (UInt8.ofNat l.length).toNat = l.length := by rw [UInt8.toNat_ofNat']; omega
  rw [tupB, List.cons_append, pTup, hc, if_neg (by omega)]
  exact pVals_back l s (fun v hv => ⟨isT_all hl v hv, ho v hv⟩)
theorem pTup_just {xs : List UInt8} {b : List VAL × List UInt8} (h : pTup xs = some b) : xs = tupB b.1 ++ b.2 ∧ isT b.1 = true ∧ ∀ v ∈ b.1, okV v := by
  cases xs with
  | nil => cases h
  | cons c xs =>
    rw [pTup] at h
    split at h
    · cases h
    · rename_i hc
      obtain ⟨h1, h2, h3⟩ := pVals_just _ _ _ h
      refine ⟨?_, isT_of (fun v hv => (h3 v hv).1) (by omega), fun v hv => (h3 v hv).2⟩
      rw [tupB, h2, UInt8.ofNat_toNat, List.cons_append, ← h1]
theorem pCnt_back {l : List VAL} (hl : isT l = true) (ho : ∀ v ∈ l, okV v) (N : Int) (hN : okI N) (s : List UInt8) : pCnt (cntB l N ++ s) = some ((l, N), s) := by
  rw [pCnt, cntB, List.append_assoc, pTup_back hl ho]
  dsimp only
  rw [pInt_back N hN]; rfl
theorem pCnt_just {xs : List UInt8} {b : (List VAL × Int) × List UInt8} (h : pCnt xs = some b) : xs = cntB b.1.1 b.1.2 ++ b.2 ∧ isT b.1.1 = true ∧ (∀ v ∈ b.1.1, okV v) ∧ okI b.1.2 := by
  rw [pCnt] at h
  split at h
  · cases h
  · rename_i l ys hq
    obtain ⟨q, hq2, rfl⟩ := Option.map_eq_some_iff.1 h
    obtain ⟨h1, h2, h3⟩ := pTup_just hq
    obtain ⟨h4, h5⟩ := pInt_just hq2
    dsimp only at *
    exact ⟨by rw [cntB, List.append_assoc, ← h4]; exact h1, h2, h3, h5⟩
/-! ### Keys -/
theorem pSym_back : ∀ (s t : List UInt8), pSym (s.flatMap escB ++ [0, 1] ++ t) = some (s, t)
  | [], t => by
    show pSym (0 :: 1 :: t) = _
    rw [pSym_0 rfl]; rfl
  | c :: s, t => by
    rw [List.flatMap_cons, List.append_assoc, List.append_assoc]
    by_cases hc : c = 0
    · subst hc
      have e : escB 0 = [0, 255] := rfl
      rw [e]
      show pSym (0 :: 255 :: (s.flatMap escB ++ ([0, 1] ++ t))) = _
      rw [pSym_0 rfl]
      dsimp only
      rw [if_neg (by decide), if_pos (by decide), ← List.append_assoc, pSym_back s t]; rfl
    · have e : escB c = [c] := by simp [escB, hc]
      rw [e]
      show pSym (c :: (s.flatMap escB ++ ([0, 1] ++ t))) = _
      rw [pSym_1 (fun h => hc (UInt8.toNat_inj.1 h)), ← List.append_assoc, pSym_back s t]; rfl
theorem beN_app (a b : List UInt8) : beN (a ++ b) = beN a * 256 ^ b.length + beN b := by
  have key : ∀ (b : List UInt8) (x : Nat), b.foldl (fun x c => x * 256 + c.toNat) x = x * 256 ^ b.length + beN b := by
    intro b
    induction b with
    | nil => intro x; simp [beN]
    | cons c b ih =>
      intro x
      rw [List.foldl_cons, ih, List.length_cons, Nat.pow_succ, show beN (c :: b) = c.toNat * 256 ^ b.length + beN b by rw [beN, List.foldl_cons, ih]; simp, Nat.add_mul, Nat.mul_assoc, Nat.mul_comm 256]
      omega
  rw [beN, List.foldl_append, key]; rfl
theorem dig_len : ∀ n K, (dig n K).length = n
  | 0, _ => rfl
  | n + 1, K => by rw [dig, List.length_cons, dig_len n K]
theorem beN_dig : ∀ n K, beN (dig n K) = K % 256 ^ n
  | 0, K => by simp [dig, beN, Nat.mod_one]
  | n + 1, K => by
    have e : dig (n + 1) K = [UInt8.ofNat (K / 256 ^ n)] ++ dig n K := rfl
    rw [e, beN_app, dig_len, beN_dig n K, Nat.mod_pow_succ]
    have : beN [UInt8.ofNat (K / 256 ^ n)] = K / 256 ^ n % 256 := by simp [beN]
    rw [this, Nat.mul_comm]; omega
theorem pKey_back {v : VAL} (hv : isV v = true) (ho : okV v) (s : List UInt8) : pKey (valK v ++ s) = some (v, s) := by
  obtain ⟨k, n, t⟩ := v
  rcases isV_cases hv with ⟨h1, h2⟩ | ⟨h1, h2, h3⟩ <;> simp only at h1 h2 <;> subst h1 h2
  · have hn := keyN_ok ho.2.1
    have hl : (dig 8 (keyN n) ++ s).length = 8 + s.length := by rw [List.length_append, dig_len]
    rw [valK_1 rfl, List.cons_append, pKey, if_pos (by decide), if_pos (by dsimp only; omega)]
    have e1 : (dig 8 (keyN n) ++ s).take 8 = dig 8 (keyN n) := List.take_left' (dig_len 8 _)
    have e2 : (dig 8 (keyN n) ++ s).drop 8 = s := List.drop_left' (dig_len 8 _)
    dsimp only
    rw [e1, e2, beN_dig, Nat.mod_eq_of_lt (by have := hn.2; dsimp only at this; omega)]
    have h3 := hn.1
    dsimp only at h3
    rw [h3]
    rw [Int.add_sub_cancel]
  · rw [valK_2 rfl, List.cons_append, pKey, if_neg (by decide), if_pos (by decide), pSym_back]
    simp only [Option.map_some, arr_of]
theorem pAll_back : ∀ (l : List VAL), (∀ v ∈ l, isV v = true ∧ okV v) → pAll (keyB l) = some l
  | [], _ => rfl
  | v :: l, h => by
    have hv := h v List.mem_cons_self
    have e : keyB (v :: l) = valK v ++ keyB l := List.flatMap_cons
    rw [e, pAll_cons (pKey_back hv.1 hv.2 _), pAll_back l (fun u hu => h u (List.mem_cons_of_mem _ hu))]; rfl
theorem pFrom_back {l : List VAL} (hl : isT l = true) (ho : ∀ v ∈ l, okV v) : pFrom (keyB l) = some l := by
  rw [pFrom_some (pAll_back l (fun v hv => ⟨isT_all hl v hv, ho v hv⟩)), if_pos hl]
end Go.Proofs.YtbljooblpfdbiaaGreatDoor
namespace Go.Proofs.YtbljooblpfdbiaaGreatDoor
open Go Go.Proofs.YtbljooblpfdbiaaGreatDoor.X
abbrev R32 := BitVec 32
def poly : R32 := 0xEDB88320#32
def st1 (r : R32) : R32 := if r.getLsbD 0 then (r >>> 1) ^^^ poly else r >>> 1
def stN : Nat → R32 → R32
  | 0, r => r
  | k + 1, r => stN k (st1 r)
def tabL : List Nat := [0x00000000, 0x1db71064, 0x3b6e20c8, 0x26d930ac, 0x76dc4190, 0x6b6b51f4, 0x4db26158, 0x5005713c, 0xedb88320, 0xf00f9344, 0xd6d6a3e8, 0xcb61b38c, 0x9b64c2b0, 0x86d3d2d4, 0xa00ae278, 0xbdbdf21c]
def tabV (n : Nat) : R32 := BitVec.ofNat 32 (tabL.getD n 0)
def nib (r : R32) : R32 := (r >>> 4) ^^^ tabV (r &&& 15#32).toNat
def C32 (c : UInt8) : R32 := BitVec.ofNat 32 c.toNat
def byteC (r : R32) (c : UInt8) : R32 := nib (nib (r ^^^ C32 c))
def moreC (r : R32) (l : List UInt8) : R32 := l.foldl byteC r
def sumC (l : List UInt8) : R32 := ~~~ (moreC (BitVec.ofNat 32 4294967295) l)
def lowC (r : R32) : List UInt8 := [UInt8.ofNat r.toNat, UInt8.ofNat (r >>> 8).toNat, UInt8.ofNat (r >>> 16).toNat, UInt8.ofNat (r >>> 24).toNat]
def num4 (a b c d : UInt8) : R32 := C32 a ||| (C32 b <<< 8) ||| (C32 c <<< 16) ||| (C32 d <<< 24)
def numC : List UInt8 → R32
  | a :: b :: c :: d :: _ => num4 a b c d
  | _ => 0
def sealC (l : List UInt8) : List UInt8 := l ++ lowC (sumC l)
def openC (l : List UInt8) : Int × List UInt8 :=
  if l.length < 4 then (41, []) else if sumC (l.take (l.length - 4)) = numC (l.drop (l.length - 4)) then (0, l.take (l.length - 4)) else (40, [])
theorem st1_xor (a b : R32) : st1 (a ^^^ b) = st1 a ^^^ st1 b := by
  unfold st1
  rw [BitVec.getLsbD_xor, BitVec.ushiftRight_xor_distrib]
  cases a.getLsbD 0 <;> cases b.getLsbD 0 <;> simp only [Bool.false_xor, Bool.true_xor, Bool.xor_false, Bool.xor_true, Bool.not_true, Bool.not_false, if_true, if_false, Bool.false_eq_true]
  · rw [BitVec.xor_assoc]
  · rw [BitVec.xor_assoc, BitVec.xor_comm (b >>> 1) poly, ← BitVec.xor_assoc]
  · rw [BitVec.xor_assoc, BitVec.xor_comm poly (b >>> 1 ^^^ poly), BitVec.xor_assoc (b >>> 1), BitVec.xor_self, BitVec.xor_zero]
theorem stN_xor (k : Nat) : ∀ a b : R32, stN k (a ^^^ b) = stN k a ^^^ stN k b := by
  induction k with
  | zero => intro a b; rfl
  | succ k ih => intro a b; rw [stN, st1_xor, ih]; rfl
theorem st1_even {r : R32} (h : r.toNat % 2 = 0) : (st1 r).toNat = r.toNat / 2 := by
  unfold st1
  have : r.getLsbD 0 = false := by rw [BitVec.getLsbD, Nat.testBit_zero]; simp; omega
  rw [this, if_neg (by decide), BitVec.toNat_ushiftRight, Nat.shiftRight_eq_div_pow]
theorem stN_even (k : Nat) : ∀ {r : R32}, r.toNat % 2 ^ k = 0 → (stN k r).toNat = r.toNat / 2 ^ k := by
  induction k with
  | zero => intro r h; simp [stN]
  | succ k ih =>
    intro r h
    have h2 : r.toNat % 2 = 0 := by
      have := Nat.mod_mod_of_dvd r.toNat (show 2 ∣ 2 ^ (k + 1) from ⟨2 ^ k, by rw [Nat.pow_succ, Nat.mul_comm]⟩)
      rw [h] at this; omega
    have h1 := st1_even h2
    rw [stN, ih (by rw [h1]; rw [Nat.pow_succ] at h; have := Nat.mod_mul_left_div_self r.toNat 2 (2 ^ k); rw [h] at this; omega), h1, Nat.div_div_eq_div_mul, Nat.pow_succ, Nat.mul_comm]
theorem tab_st : ∀ n : Fin 16, stN 4 (BitVec.ofNat 32 n.1) = tabV n.1 := by decide
theorem and15 (r : R32) : (r &&& 15#32).toNat = r.toNat % 16 := by
  rw [BitVec.toNat_and]
  exact Nat.and_two_pow_sub_one_eq_mod r.toNat 4
theorem split4 (r : R32) : r = ((r >>> 4) <<< 4) ^^^ (r &&& 15#32) := by
  apply BitVec.eq_of_getLsbD_eq
  intro i hi
  have h15 : (15#32).getLsbD i = decide (i < 4) := by
    have : ∀ i : Fin 32, (15#32).getLsbD i.1 = decide (i.1 < 4) := by decide
    exact this ⟨i, hi⟩
  rw [BitVec.getLsbD_xor, BitVec.getLsbD_and, h15, BitVec.getLsbD_shiftLeft, BitVec.getLsbD_ushiftRight]
  by_cases h : i < 4
  · simp [h]
  · simp [h, hi, show 4 + (i - 4) = i by omega]
theorem nib_st (r : R32) : nib r = stN 4 r := by
  conv => rhs; rw [split4 r]
  rw [stN_xor]
  have h1 : stN 4 ((r >>> 4) <<< 4) = r >>> 4 := by
    apply BitVec.eq_of_toNat_eq
    have hlt := r.isLt
    have e : ((r >>> 4) <<< 4).toNat = r.toNat / 16 * 16 := by
      rw [BitVec.toNat_shiftLeft, BitVec.toNat_ushiftRight, Nat.shiftLeft_eq, Nat.shiftRight_eq_div_pow]; omega
    rw [stN_even 4 (by rw [e]; omega), e, BitVec.toNat_ushiftRight, Nat.shiftRight_eq_div_pow]; omega
  have h2 : stN 4 (r &&& 15#32) = tabV (r &&& 15#32).toNat := by
    have hb := and15 r
    have := tab_st ⟨(r &&& 15#32).toNat, by rw [hb]; omega⟩
    rw [← this]
    congr 1
    exact (BitVec.ofNat_toNat 32 (r &&& 15#32)).symm ▸ (BitVec.setWidth_eq _).symm
  rw [h1, h2]; rfl
theorem stN_add (a : Nat) : ∀ (b : Nat) (r : R32), stN b (stN a r) = stN (a + b) r := by
  induction a with
  | zero => intro b r; rw [Nat.zero_add]; rfl
  | succ a ih => intro b r; rw [stN, ih, Nat.succ_add]; rfl
theorem byte_st (r : R32) (c : UInt8) : byteC r c = stN 8 (r ^^^ C32 c) := by
  rw [byteC, nib_st, nib_st, stN_add]
/-! ### the reference's single bits -/
def CK (c : UInt8) (k : Nat) : R32 := BitVec.ofNat 32 (c.toNat / 2 ^ k)
def bitK (c : UInt8) (k : Nat) : R32 := CK c k &&& 1#32
theorem and1 (r : R32) : (r &&& 1#32).toNat = r.toNat % 2 := by
  rw [BitVec.toNat_and]
  exact Nat.and_two_pow_sub_one_eq_mod r.toNat 1
theorem CK_toNat (c : UInt8) (k : Nat) : (CK c k).toNat = c.toNat / 2 ^ k := by
  have := c.toNat_lt
  have h2 : c.toNat / 2 ^ k ≤ c.toNat := Nat.div_le_self _ _
  rw [CK, BitVec.toNat_ofNat]; exact Nat.mod_eq_of_lt (Nat.lt_of_le_of_lt h2 (by omega))
theorem getLsb0 (r : R32) : r.getLsbD 0 = decide (r.toNat % 2 = 1) := by
  rw [BitVec.getLsbD, Nat.testBit_zero]
theorem shr1_xor_bit (r b : R32) (hb : b.toNat < 2) : (r ^^^ b) >>> 1 = r >>> 1 := by
  rw [BitVec.ushiftRight_xor_distrib]
  have : b >>> 1 = 0#32 := by
    apply BitVec.eq_of_toNat_eq
    rw [BitVec.toNat_ushiftRight, Nat.shiftRight_eq_div_pow]; simp; omega
  rw [this, BitVec.xor_zero]
def rstep (r b : R32) : R32 := if (r ^^^ b) &&& 1#32 = 1#32 then (r >>> 1) ^^^ poly else r >>> 1
theorem rstep_st (r b : R32) (hb : b.toNat < 2) : rstep r b = st1 (r ^^^ b) := by
  unfold rstep st1
  rw [shr1_xor_bit r b hb]
  have h1 := and1 (r ^^^ b)
  by_cases h : (r ^^^ b) &&& 1#32 = 1#32
  · rw [if_pos h, if_pos]
    rw [h] at h1
    rw [getLsb0, ← h1]; rfl
  · rw [if_neg h, if_neg]
    rw [getLsb0, ← h1]
    intro e
    exact h (BitVec.eq_of_toNat_eq (by simpa using e))
theorem bit_lt (c : UInt8) (k : Nat) : (bitK c k).toNat < 2 := by rw [bitK, and1]; omega
theorem st_bit (c : UInt8) (k : Nat) : st1 (CK c k ^^^ bitK c k) = CK c (k + 1) := by
  have e : (CK c k ^^^ bitK c k).toNat = c.toNat / 2 ^ k / 2 * 2 := by
    have h : CK c k = ((CK c k >>> 1) <<< 1) ^^^ bitK c k := by
      apply BitVec.eq_of_getLsbD_eq
      intro i hi
      have h1 : (1#32).getLsbD i = decide (i < 1) := by
        have : ∀ i : Fin 32, (1#32).getLsbD i.1 = decide (i.1 < 1) := by decide
        exact this ⟨i, hi⟩
      rw [bitK, BitVec.getLsbD_xor, BitVec.getLsbD_and, h1, BitVec.getLsbD_shiftLeft, BitVec.getLsbD_ushiftRight]
      by_cases h : i < 1
      · simp [h]
      · simp [h, hi, show 1 + (i - 1) = i by omega]
    have h2 : CK c k ^^^ bitK c k = (CK c k >>> 1) <<< 1 := by
      conv => lhs; lhs; rw [h]
      rw [BitVec.xor_assoc, BitVec.xor_self, BitVec.xor_zero]
    have hc := c.toNat_lt
    have h3 : c.toNat / 2 ^ k ≤ c.toNat := Nat.div_le_self _ _
    rw [h2, BitVec.toNat_shiftLeft, BitVec.toNat_ushiftRight, CK_toNat, Nat.shiftLeft_eq, Nat.shiftRight_eq_div_pow]; omega
  apply BitVec.eq_of_toNat_eq
  rw [st1_even (by rw [e]; omega), e, CK_toNat, Nat.pow_succ, ← Nat.div_div_eq_div_mul]; omega
theorem CK_0 (c : UInt8) : CK c 0 = C32 c := by rw [CK, C32]; simp
theorem CK_8 (c : UInt8) : CK c 8 = 0#32 := by
  have := c.toNat_lt
  rw [CK, show c.toNat / 2 ^ 8 = 0 by omega]
theorem bits_next (T r : R32) (c : UInt8) (k : Nat) (hk : k < 8) (h : stN (8 - k) (r ^^^ CK c k) = T) : stN (8 - (k + 1)) (rstep r (bitK c k) ^^^ CK c (k + 1)) = T := by
  rw [rstep_st _ _ (bit_lt c k), ← st_bit, ← st1_xor]
  rw [show r ^^^ bitK c k ^^^ (CK c k ^^^ bitK c k) = r ^^^ CK c k by
    rw [BitVec.xor_comm (CK c k), BitVec.xor_assoc, ← BitVec.xor_assoc (bitK c k) (bitK c k), BitVec.xor_self, BitVec.zero_xor]]
  rw [show 8 - k = (8 - (k + 1)) + 1 by omega, stN] at h
  exact h
theorem bits_first (r : R32) (c : UInt8) : stN (8 - 0) (r ^^^ CK c 0) = byteC r c := by rw [byte_st, CK_0]
theorem bits_last {T r : R32} {c : UInt8} (h : stN (8 - 8) (r ^^^ CK c 8) = T) : r = T := by
  rw [CK_8, BitVec.xor_zero] at h; exact h
/-! ### the table in memory -/
def TabOk (w : World) : Prop := ∀ i, i < 16 → w.cell? ⟨0, i, none⟩ = some (.int .u32 ((tabV i).toNat : Int))
theorem TabOk.lt {w : World} (h : TabOk w) : 0 < w.heap.size := World.block_lt_of_cell? w _ (h 0 (by omega))
theorem TabOk.ext {w w' : World} {T : Nat → Prop} (h : TabOk w) (x : Ext T w w') (hT : ¬ T 0) : TabOk w' := fun i hi => by
  rw [World.cell?_of_block (w := w) (x.keep _ h.lt hT)]; exact h i hi
theorem TabOk.keep {w w' : World} (h : TabOk w) (x : Keep w w') : TabOk w' := h.ext x id
theorem TabOk.at {w : World} (h : TabOk w) (r : R32) : w.cell? ((⟨0, 0, none⟩ : Addr).add ((((r &&& 15#32).toNat : Nat) : Int).toNat * 1)) = some (.int .u32 ((tabV (r &&& 15#32).toNat).toNat : Int)) := by
  rw [add_mk, Nat.mul_one, Nat.zero_add, Int.toNat_natCast]
  exact h _ (by rw [and15]; omega)
theorem E8 : ElemInfo Tryz.prog 5 1 1 := ElemInfo.of (z := .int .u8 0) (by kernel_rfl) rfl rfl rfl
end Go.Proofs.YtbljooblpfdbiaaGreatDoor
namespace Go.Proofs.YtbljooblpfdbiaaGreatDoor
open Go Go.Proofs.YtbljooblpfdbiaaGreatDoor.X
theorem moreC_cons (r : R32) (c : UInt8) (l : List UInt8) : moreC r (c :: l) = moreC (byteC r c) l := rfl
set_option maxHeartbeats 4000000 in
set_option maxRecDepth 100000 in
theorem more_c (r : R32) {lo hi : Nat} {A : Option Addr} {n c : Nat} {l : List UInt8} (w : World) (hs : Sl KB lo hi w A n l) (hT : TabOk w) : Ret Tryz.prog 145 #[.int .u32 (r.toNat : Int), .slice A n c] w fun v w' => v = .int .u32 ((moreC r l).toNat : Int) ∧ Keep w w' := by
  have hl := hs.len
  have hbd := hs.bound
  refine X.enter Tryz.func145 rfl Tryz.ntmps145 rfl ?_
  refine X.seq ?_
  refine X.region ?_
  refine X.opw X.wN rfl (X.assign rfl) ?_
  refine X.opsEnd ?_
  refine X.seq ?_
  refine X.seq ?_
  refine X.region ?_
  refine X.opw X.wN rfl (X.move (v := .slice _ _ _) rfl) ?_
  refine X.opw X.wN rfl (X.lenSl Tryz.underlying43 rfl) ?_
  refine X.opw X.wN rfl (X.move rfl) ?_
  refine X.opsEnd ?_
  refine X.block ?_
  refine X.loopL (σ := Nat × R32) (fun s => [(0, .int .u32 (s.2.toNat : Int)), (7, .slice A n c), (8, .int .i64 (n : Int)), (9, .int .i64 (s.1 : Int))]) (fun s w' => s.1 ≤ n ∧ moreC s.2 (l.drop s.1) = moreC r l ∧ Keep w w') (fun s => n - s.1) (0, r) ⟨rfl, rfl, rfl, rfl, trivial⟩ ⟨by simp, by simp, (Keep.refl _)⟩ ?_
  rintro ⟨i, r1⟩ b wl ⟨hi0, hp, hk⟩ hback
  dsimp only
  simp only at hi0 hp
  refine X.seq ?_
  refine X.region ?_
  refine X.opP X.wN rfl rfl (X.lss rfl rfl) (fun h10 => ?_) (fun h10 => ?_)
  · obtain ⟨y, hx⟩ := getN i hl h10
    rw [drop_at hx, moreC_cons] at hp
    refine X.opsEnd ?_
    refine X.seq ?_
    refine X.condT rfl ?_
    refine X.skip ?_
    refine X.seq ?_
    refine X.block ?_
    refine X.seq ?_
    refine X.region ?_
    refine X.opw X.wN rfl (X.idxS (hs.keep hk) Tryz.underlying43 Tryz.sizeOf5 rfl rfl ⟨by omega, by omega⟩) ?_
    refine X.opw X.wN rfl (X.loadS Tryz.isAgg5 (hs.keep hk) hx rfl (fun _ h => by rw [h.1]; rfl)) ?_
    refine X.opw X.wN rfl (X.assign (v := .int .u8 _) rfl) ?_
    refine X.opsEnd ?_
    refine X.seq ?_
    refine X.region ?_
    refine X.opw X.wN rfl (X.move (v := .int .u32 _) rfl) ?_
    refine X.opw X.wN rfl (X.move (v := .int .u8 _) rfl) ?_
    refine X.opw X.wN rfl (X.cvI Tryz.underlying5 Tryz.underlying68 rfl (cv8_32 _)) ?_
    refine X.opw X.wN rfl (X.xor_ rfl rfl (xor32 _ _)) ?_
    refine X.opw X.wN rfl (X.assign (v := .int .u32 _) rfl) ?_
    refine X.opsEnd ?_
    refine X.seq ?_
    refine X.region ?_
    refine X.opw X.wN rfl (X.move (v := .int .u32 _) rfl) ?_
    refine X.opw X.wN rfl (X.shr rfl rfl (by decide) (shr32 _ 4 (by decide))) ?_
    refine X.opw X.wN rfl (X.move (v := .int .u32 _) rfl) ?_
    refine X.opw X.wN rfl (X.and_ rfl rfl (and32 _ 15#32)) ?_
    refine X.opw X.wN rfl (X.idxArr Tryz.underlying244 Tryz.sizeOf68 rfl rfl ⟨Int.natCast_nonneg _, by rw [and15]; omega⟩) ?_
    refine X.opw X.wN rfl (X.load1 Tryz.isAgg68 rfl ((hT.keep hk).at _)) ?_
    refine X.opw X.wN rfl (X.xor_ rfl rfl (xor32 _ _)) ?_
    refine X.opw X.wN rfl (X.assign (v := .int .u32 _) rfl) ?_
    refine X.opsEnd ?_
    refine X.region ?_
    refine X.opw X.wN rfl (X.move (v := .int .u32 _) rfl) ?_
    refine X.opw X.wN rfl (X.shr rfl rfl (by decide) (shr32 _ 4 (by decide))) ?_
    refine X.opw X.wN rfl (X.move (v := .int .u32 _) rfl) ?_
    refine X.opw X.wN rfl (X.and_ rfl rfl (and32 _ 15#32)) ?_
    refine X.opw X.wN rfl (X.idxArr Tryz.underlying244 Tryz.sizeOf68 rfl rfl ⟨Int.natCast_nonneg _, by rw [and15]; omega⟩) ?_
    refine X.opw X.wN rfl (X.load1 Tryz.isAgg68 rfl ((hT.keep hk).at _)) ?_
    refine X.opw X.wN rfl (X.xor_ rfl rfl (xor32 _ _)) ?_
    refine X.opw X.wN rfl (X.assign (v := .int .u32 _) rfl) ?_
    refine X.opsEnd ?_
    refine X.inBlock ?_
    refine X.region ?_
    refine X.opw X.wN rfl (X.add rfl rfl (X.w_i64 (by omega))) ?_
    refine X.opw X.wN rfl (X.move (v := .int .i64 _) rfl) ?_
    refine X.opsEnd ?_
    refine hback (i + 1, byteC r1 y) _ _ ⟨rfl, rfl, rfl, rfl, trivial⟩ ⟨by dsimp only; omega, hp, hk⟩ (by dsimp only; omega)
  · rw [List.drop_of_length_le (by omega)] at hp
    refine X.opsEnd ?_
    refine X.seq ?_
    refine X.condF rfl ?_
    refine X.exit rfl ?_
    refine X.seq ?_
    refine X.region ?_
    refine X.opw X.wN rfl (X.move (v := .int .u32 _) rfl) ?_
    refine X.opw X.wN rfl (X.assign (v := .int .u32 _) rfl) ?_
    refine X.opsEnd ?_
    refine X.ret1 (v := (.int .u32 _)) Tryz.func145 Tryz.results145 rfl ?_
    exact ⟨by rw [← hp]; rfl, hk⟩
set_option maxHeartbeats 4000000 in
set_option maxRecDepth 100000 in
theorem Sum_c {lo hi : Nat} {A : Option Addr} {n c : Nat} {l : List UInt8} (w : World) (hs : Sl KB lo hi w A n l) (hT : TabOk w) : Ret Tryz.prog 106 #[.slice A n c] w fun v w' => v = .int .u32 ((sumC l).toNat : Int) ∧ Keep w w' := by
  refine X.enter Tryz.func106 rfl Tryz.ntmps106 rfl ?_
  refine X.seq ?_
  refine X.region ?_
  refine X.opw X.wN rfl (X.assign rfl) ?_
  refine X.opsEnd ?_
  refine X.seq ?_
  refine X.region ?_
  refine X.opw X.wN rfl (X.move (v := .slice _ _ _) rfl) ?_
  refine X.opE X.wN rfl (X.callE (more_c (BitVec.ofNat 32 4294967295) _ hs (hT.keep (Keep.refl _))) Tryz.call145 rfl rfl) ?_
  rintro _ w1 ⟨rfl, hk1⟩
  have hk1' := hk1.size
  refine X.opw X.wN rfl (X.com rfl (com32 _)) ?_
  refine X.opw X.wN rfl (X.assign (v := .int .u32 _) rfl) ?_
  refine X.opsEnd ?_
  refine X.ret1 (v := (.int .u32 _)) Tryz.func106 Tryz.results106 rfl ?_
  exact ⟨rfl, hk1⟩
set_option maxHeartbeats 4000000 in
set_option maxRecDepth 100000 in
theorem step_c (r b : R32) (w : World) : Ret Tryz.prog 146 #[.int .u32 (r.toNat : Int), .int .u32 (b.toNat : Int)] w fun v w' => v = .int .u32 ((rstep r b).toNat : Int) ∧ Keep w w' := by
  refine X.enter Tryz.func146 rfl Tryz.ntmps146 rfl ?_
  refine X.seq ?_
  refine X.region ?_
  refine X.opw X.wN rfl (X.assign rfl) ?_
  refine X.opsEnd ?_
  refine X.seq ?_
  refine X.seq ?_
  refine X.region ?_
  refine X.opw X.wN rfl (X.move (v := .int .u32 _) rfl) ?_
  refine X.opw X.wN rfl (X.move (v := .int .u32 _) rfl) ?_
  refine X.opw X.wN rfl (X.xor_ rfl rfl (xor32 _ _)) ?_
  refine X.opw X.wN rfl (X.and_ rfl rfl (and32 _ 1#32)) ?_
  refine X.opP X.wN rfl rfl (X.eqI rfl rfl) (fun h9 => ?_) (fun h9 => ?_)
  · refine X.opsEnd ?_
    refine X.condT rfl ?_
    refine X.seq ?_
    refine X.region ?_
    refine X.opw X.wN rfl (X.move (v := .int .u32 _) rfl) ?_
    refine X.opw X.wN rfl (X.shr rfl rfl (by decide) (shr32 _ 1 (by decide))) ?_
    refine X.opw X.wN rfl (X.xor_ rfl rfl (xor32 _ 3988292384#32)) ?_
    refine X.opw X.wN rfl (X.assign (v := .int .u32 _) rfl) ?_
    refine X.opsEnd ?_
    refine X.ret1 (v := (.int .u32 _)) Tryz.func146 Tryz.results146 rfl ?_
    exact ⟨by rw [rstep, if_pos (BitVec.eq_of_toNat_eq (show _ = 1 by omega))]; rfl, (Keep.refl _)⟩
  · refine X.opsEnd ?_
    refine X.condF rfl ?_
    refine X.skip ?_
    refine X.seq ?_
    refine X.region ?_
    refine X.opw X.wN rfl (X.move (v := .int .u32 _) rfl) ?_
    refine X.opw X.wN rfl (X.shr rfl rfl (by decide) (shr32 _ 1 (by decide))) ?_
    refine X.opw X.wN rfl (X.assign (v := .int .u32 _) rfl) ?_
    refine X.opsEnd ?_
    refine X.ret1 (v := (.int .u32 _)) Tryz.func146 Tryz.results146 rfl ?_
    exact ⟨by rw [rstep, if_neg (fun e => h9 (by rw [e]; rfl))], (Keep.refl _)⟩
theorem shr8 (y : UInt8) (k : Nat) (hk : k < 8) : ((y.toNat : Nat) : Int).fdiv (2 ^ (min ((k : Int)).toNat IntKind.u8.bits)) = ((y.toNat / 2 ^ k : Nat) : Int) := by
  have h : min ((k : Int)).toNat IntKind.u8.bits = k := by show min ((k : Int)).toNat 8 = k; omega
  have e : (2 : Int) ^ k = ((2 ^ k : Nat) : Int) := by rw [Int.natCast_pow]; rfl
  rw [h, e, Int.fdiv_eq_ediv_of_nonneg _ (Int.natCast_nonneg _)]
  rfl
theorem cvK (y : UInt8) (k : Nat) : IntKind.u32.wrap ((y.toNat / 2 ^ k : Nat) : Int) = ((CK y k).toNat : Int) := by
  rw [CK_toNat]; have := y.toNat_lt
  have h2 : y.toNat / 2 ^ k ≤ y.toNat := Nat.div_le_self _ _
  exact w_u32 ⟨Int.natCast_nonneg _, Int.le_trans (Int.ofNat_le.2 h2) (by omega)⟩
set_option maxHeartbeats 4000000 in
set_option maxRecDepth 100000 in
theorem RSum_c {lo hi : Nat} {A : Option Addr} {n c : Nat} {l : List UInt8} (w : World) (hs : Sl KB lo hi w A n l) : Ret Tryz.prog 109 #[.slice A n c] w fun v w' => v = .int .u32 ((sumC l).toNat : Int) ∧ Keep w w' := by
  have hl := hs.len
  have hbd := hs.bound
  refine X.enter Tryz.func109 rfl Tryz.ntmps109 rfl ?_
  refine X.seq ?_
  refine X.region ?_
  refine X.opw X.wN rfl (X.assign rfl) ?_
  refine X.opsEnd ?_
  refine X.seq ?_
  refine X.region ?_
  refine X.opw X.wN rfl (X.assign rfl) ?_
  refine X.opsEnd ?_
  refine X.seq ?_
  refine X.seq ?_
  refine X.region ?_
  refine X.opw X.wN rfl (X.assign rfl) ?_
  refine X.opsEnd ?_
  refine X.block ?_
  refine X.loopL (σ := Nat × R32) (fun s => [(0, .slice A n c), (3, .int .u32 (s.2.toNat : Int)), (4, .int .i64 (s.1 : Int))]) (fun s w' => s.1 ≤ n ∧ moreC s.2 (l.drop s.1) = moreC (BitVec.ofNat 32 4294967295) l ∧ Keep w w') (fun s => n - s.1) (0, BitVec.ofNat 32 4294967295) ⟨rfl, rfl, rfl, trivial⟩ ⟨by simp, by simp, (Keep.refl _)⟩ ?_
  rintro ⟨i, r1⟩ b wl ⟨hi0, hp, hk⟩ hback
  dsimp only
  simp only at hi0 hp
  refine X.seq ?_
  refine X.seq ?_
  refine X.region ?_
  refine X.opw X.wN rfl (X.move (v := .int .i64 _) rfl) ?_
  refine X.opw X.wN rfl (X.move (v := .slice _ _ _) rfl) ?_
  refine X.opw X.wN rfl (X.lenSl Tryz.underlying43 rfl) ?_
  refine X.opP X.wN rfl rfl (X.lss rfl rfl) (fun h9 => ?_) (fun h9 => ?_)
  · obtain ⟨y, hx⟩ := getN i hl h9
    rw [drop_at hx, moreC_cons] at hp
    refine X.opsEnd ?_
    refine X.condT rfl ?_
    refine X.skip ?_
    refine X.seq ?_
    refine X.block ?_
    refine X.seq ?_
    refine X.region ?_
    refine X.opw X.wN rfl (X.assign rfl) ?_
    refine X.opsEnd ?_
    refine X.block ?_
    refine X.loopL (σ := Nat × R32) (fun s => [(0, .slice A n c), (3, .int .u32 (s.2.toNat : Int)), (4, .int .i64 (i : Int)), (5, .int .i64 (s.1 : Int))]) (fun s w' => s.1 ≤ 8 ∧ stN (8 - s.1) (s.2 ^^^ CK y s.1) = byteC r1 y ∧ Keep w w') (fun s => 8 - s.1) (0, r1) ⟨rfl, rfl, rfl, rfl, trivial⟩ ⟨by simp, bits_first r1 y, hk⟩ ?_
    rintro ⟨k, r2⟩ b wm ⟨hk0, hq, hk⟩ hback2
    dsimp only
    simp only at hk0 hq
    refine X.seq ?_
    refine X.seq ?_
    refine X.region ?_
    refine X.opw X.wN rfl (X.move (v := .int .i64 _) rfl) ?_
    refine X.opP X.wN rfl rfl (X.lss rfl rfl) (fun h13 => ?_) (fun h13 => ?_)
    · refine X.opsEnd ?_
      refine X.condT rfl ?_
      refine X.skip ?_
      refine X.seq ?_
      refine X.block ?_
      refine X.region ?_
      refine X.opw X.wN rfl (X.move (v := .int .u32 _) rfl) ?_
      refine X.opw X.wN rfl (X.move (v := .slice _ _ _) rfl) ?_
      refine X.opw X.wN rfl (X.move (v := .int .i64 _) rfl) ?_
      refine X.opw X.wN rfl (X.idxS (hs.keep hk) Tryz.underlying43 Tryz.sizeOf5 rfl rfl ⟨by omega, by omega⟩) ?_
      refine X.opw X.wN rfl (X.loadS Tryz.isAgg5 (hs.keep hk) hx rfl (fun _ h => by rw [h.1]; rfl)) ?_
      refine X.opw X.wN rfl (X.move (v := .int .i64 _) rfl) ?_
      refine X.opw X.wN rfl (X.cvI Tryz.underlying3 Tryz.underlying77 rfl (X.w_u64 (by omega))) ?_
      refine X.opw X.wN rfl (X.shr (c := ((y.toNat / 2 ^ k : Nat) : Int)) rfl rfl (by omega) (shr8 y k (by omega))) ?_
      refine X.opw X.wN rfl (X.cvI Tryz.underlying5 Tryz.underlying68 rfl (cvK y k)) ?_
      refine X.opw X.wN rfl (X.and_ rfl rfl (and32 _ 1#32)) ?_
      refine X.opE X.wN rfl (X.callE (step_c _ (bitK y k) _) Tryz.call146 rfl rfl) ?_
      rintro _ w1 ⟨rfl, hk1⟩
      have hk1' := hk1.size
      refine X.opw X.wN rfl (X.assign (v := .int .u32 _) rfl) ?_
      refine X.opsEnd ?_
      refine X.inBlock ?_
      refine X.region ?_
      refine X.opw X.wN rfl (X.move (v := .int .i64 _) rfl) ?_
      refine X.opw X.wN rfl (X.add rfl rfl (X.w_i64 (by omega))) ?_
      refine X.opw X.wN rfl (X.assign (v := .int .i64 _) rfl) ?_
      refine X.opsEnd ?_
      refine hback2 (k + 1, rstep r2 (bitK y k)) _ _ ⟨rfl, rfl, rfl, rfl, trivial⟩ ⟨by dsimp only; omega, bits_next _ r2 y k (by omega) hq, (hk.trans hk1)⟩ (by dsimp only; omega)
    · obtain rfl : k = 8 := by omega
      have hr := bits_last hq
      subst hr
      refine X.opsEnd ?_
      refine X.condF rfl ?_
      refine X.exit rfl ?_
      refine X.inBlock ?_
      refine X.region ?_
      refine X.opw X.wN rfl (X.move (v := .int .i64 _) rfl) ?_
      refine X.opw X.wN rfl (X.add rfl rfl (X.w_i64 (by omega))) ?_
      refine X.opw X.wN rfl (X.assign (v := .int .i64 _) rfl) ?_
      refine X.opsEnd ?_
      refine hback (i + 1, byteC r1 y) _ _ ⟨rfl, rfl, rfl, trivial⟩ ⟨by dsimp only; omega, hp, hk⟩ (by dsimp only; omega)
  · rw [List.drop_of_length_le (by omega)] at hp
    refine X.opsEnd ?_
    refine X.condF rfl ?_
    refine X.exit rfl ?_
    refine X.seq ?_
    refine X.region ?_
    refine X.opw X.wN rfl (X.move (v := .int .u32 _) rfl) ?_
    refine X.opw X.wN rfl (X.com rfl (com32 _)) ?_
    refine X.opw X.wN rfl (X.assign (v := .int .u32 _) rfl) ?_
    refine X.opsEnd ?_
    refine X.ret1 (v := (.int .u32 _)) Tryz.func109 Tryz.results109 rfl ?_
    exact ⟨by rw [sumC, ← hp]; rfl, hk⟩
end Go.Proofs.YtbljooblpfdbiaaGreatDoor
namespace Go.Proofs.YtbljooblpfdbiaaGreatDoor
open Go Go.Proofs.YtbljooblpfdbiaaGreatDoor.X
theorem four_split {l : List UInt8} {n : Nat} (hl : l.length = n) (h : 4 ≤ n) : ∃ a b c d t, l = a :: b :: c :: d :: t := by
  match l, hl with
  | a :: b :: c :: d :: t, _ => exact ⟨a, b, c, d, t, rfl⟩
  | [], e => simp at e; omega
  | [a], e => simp at e; omega
  | [a, b], e => simp at e; omega
  | [a, b, c], e => simp at e; omega
set_option maxHeartbeats 4000000 in
set_option maxRecDepth 100000 in
theorem low_c (r : R32) (w : World) : Ret Tryz.prog 105 #[.int .u32 (r.toNat : Int)] w fun v w' => Fresh KB 5 w w' v (lowC r) := by
  refine X.enter Tryz.func105 rfl Tryz.ntmps105 rfl ?_
  refine X.seq ?_
  refine X.region ?_
  refine X.opw X.wN rfl (X.assign rfl) ?_
  refine X.opsEnd ?_
  refine X.seq ?_
  refine X.region ?_
  refine X.opw X.wN rfl (X.move (v := .int .u32 _) rfl) ?_
  refine X.opw X.wN rfl (X.cvI Tryz.underlying68 Tryz.underlying5 rfl (cv32_8 _)) ?_
  refine X.opw X.wN rfl (X.move (v := .int .u32 _) rfl) ?_
  refine X.opw X.wN rfl (X.shr rfl rfl (by decide) (shr32 _ 8 (by decide))) ?_
  refine X.opw X.wN rfl (X.cvI Tryz.underlying68 Tryz.underlying5 rfl (cv32_8 _)) ?_
  refine X.opw X.wN rfl (X.move (v := .int .u32 _) rfl) ?_
  refine X.opw X.wN rfl (X.shr rfl rfl (by decide) (shr32 _ 16 (by decide))) ?_
  refine X.opw X.wN rfl (X.cvI Tryz.underlying68 Tryz.underlying5 rfl (cv32_8 _)) ?_
  refine X.opw X.wN rfl (X.move (v := .int .u32 _) rfl) ?_
  refine X.opw X.wN rfl (X.shr rfl rfl (by decide) (shr32 _ 24 (by decide))) ?_
  refine X.opw X.wN rfl (X.cvI Tryz.underlying68 Tryz.underlying5 rfl (cv32_8 _)) ?_
  refine X.opE X.wN rfl (X.litKE (K := KB) (xs := [Operand.tmp 4, Operand.tmp 7, Operand.tmp 10, Operand.tmp 13]) (vs := [.int .u8 ((UInt8.ofNat r.toNat).toNat : Int), .int .u8 ((UInt8.ofNat (r >>> 8).toNat).toNat : Int), .int .u8 ((UInt8.ofNat (r >>> 16).toNat).toNat : Int), .int .u8 ((UInt8.ofNat (r >>> 24).toNat).toNat : Int)]) (ys := [UInt8.ofNat r.toNat, UInt8.ofNat (r >>> 8).toNat, UInt8.ofNat (r >>> 16).toNat, UInt8.ofNat (r >>> 24).toNat]) Tryz.underlying43 Tryz.sizeOf5 Tryz.zeroValue5 rfl rfl rfl rfl rfl (repsB [UInt8.ofNat r.toNat, UInt8.ofNat (r >>> 8).toNat, UInt8.ofNat (r >>> 16).toNat, UInt8.ofNat (r >>> 24).toNat])) ?_
  rintro _ w1 ⟨rfl, hs1, hB1, hk1, hz1⟩
  refine X.opw X.wN rfl (X.assign rfl) ?_
  refine X.opsEnd ?_
  refine X.ret1 Tryz.func105 Tryz.results105 rfl ?_
  exact ⟨(Mine.litV (vs := [.int .u8 ((UInt8.ofNat r.toNat).toNat : Int), .int .u8 ((UInt8.ofNat (r >>> 8).toNat).toNat : Int), .int .u8 ((UInt8.ofNat (r >>> 16).toNat).toNat : Int), .int .u8 ((UInt8.ofNat (r >>> 24).toNat).toNat : Int)]) (w0 := w) KB_flat hB1 (repsB [UInt8.ofNat r.toNat, UInt8.ofNat (r >>> 8).toNat, UInt8.ofNat (r >>> 16).toNat, UInt8.ofNat (r >>> 24).toNat]) rfl (by omega) zq26), hk1⟩
set_option maxHeartbeats 4000000 in
set_option maxRecDepth 100000 in
theorem four_c (r : R32) (w : World) : Ret Tryz.prog 108 #[.int .u32 (r.toNat : Int)] w fun v w' => Fresh KB 5 w w' v (lowC r) := by
  refine X.enter Tryz.func108 rfl Tryz.ntmps108 rfl ?_
  refine X.seq ?_
  refine X.region ?_
  refine X.opw X.wN rfl (X.assign rfl) ?_
  refine X.opsEnd ?_
  refine X.seq ?_
  refine X.region ?_
  refine X.opw X.wN rfl (X.move (v := .int .u32 _) rfl) ?_
  refine X.opw X.wN rfl (X.cvI Tryz.underlying68 Tryz.underlying5 rfl (cv32_8 _)) ?_
  refine X.opw X.wN rfl (X.move (v := .int .u32 _) rfl) ?_
  refine X.opw X.wN rfl (X.shr rfl rfl (by decide) (shr32 _ 8 (by decide))) ?_
  refine X.opw X.wN rfl (X.cvI Tryz.underlying68 Tryz.underlying5 rfl (cv32_8 _)) ?_
  refine X.opw X.wN rfl (X.move (v := .int .u32 _) rfl) ?_
  refine X.opw X.wN rfl (X.shr rfl rfl (by decide) (shr32 _ 16 (by decide))) ?_
  refine X.opw X.wN rfl (X.cvI Tryz.underlying68 Tryz.underlying5 rfl (cv32_8 _)) ?_
  refine X.opw X.wN rfl (X.move (v := .int .u32 _) rfl) ?_
  refine X.opw X.wN rfl (X.shr rfl rfl (by decide) (shr32 _ 24 (by decide))) ?_
  refine X.opw X.wN rfl (X.cvI Tryz.underlying68 Tryz.underlying5 rfl (cv32_8 _)) ?_
  refine X.opE X.wN rfl (X.litKE (K := KB) (xs := [Operand.tmp 4, Operand.tmp 7, Operand.tmp 10, Operand.tmp 13]) (vs := [.int .u8 ((UInt8.ofNat r.toNat).toNat : Int), .int .u8 ((UInt8.ofNat (r >>> 8).toNat).toNat : Int), .int .u8 ((UInt8.ofNat (r >>> 16).toNat).toNat : Int), .int .u8 ((UInt8.ofNat (r >>> 24).toNat).toNat : Int)]) (ys := [UInt8.ofNat r.toNat, UInt8.ofNat (r >>> 8).toNat, UInt8.ofNat (r >>> 16).toNat, UInt8.ofNat (r >>> 24).toNat]) Tryz.underlying43 Tryz.sizeOf5 Tryz.zeroValue5 rfl rfl rfl rfl rfl (repsB [UInt8.ofNat r.toNat, UInt8.ofNat (r >>> 8).toNat, UInt8.ofNat (r >>> 16).toNat, UInt8.ofNat (r >>> 24).toNat])) ?_
  rintro _ w1 ⟨rfl, hs1, hB1, hk1, hz1⟩
  refine X.opw X.wN rfl (X.assign rfl) ?_
  refine X.opsEnd ?_
  refine X.ret1 Tryz.func108 Tryz.results108 rfl ?_
  exact ⟨(Mine.litV (vs := [.int .u8 ((UInt8.ofNat r.toNat).toNat : Int), .int .u8 ((UInt8.ofNat (r >>> 8).toNat).toNat : Int), .int .u8 ((UInt8.ofNat (r >>> 16).toNat).toNat : Int), .int .u8 ((UInt8.ofNat (r >>> 24).toNat).toNat : Int)]) (w0 := w) KB_flat hB1 (repsB [UInt8.ofNat r.toNat, UInt8.ofNat (r >>> 8).toNat, UInt8.ofNat (r >>> 16).toNat, UInt8.ofNat (r >>> 24).toNat]) rfl (by omega) zq26), hk1⟩
set_option maxHeartbeats 4000000 in
set_option maxRecDepth 100000 in
theorem number_c {lo hi : Nat} {A : Option Addr} {n c : Nat} {l : List UInt8} (w : World) (hs : Sl KB lo hi w A n l) (h4 : 4 ≤ n) : Ret Tryz.prog 125 #[.slice A n c] w fun v w' => v = .int .u32 ((numC l).toNat : Int) ∧ Keep w w' := by
  obtain ⟨x0, x1, x2, x3, t, rfl⟩ := four_split hs.len h4
  refine X.enter Tryz.func125 rfl Tryz.ntmps125 rfl ?_
  refine X.seq ?_
  refine X.region ?_
  refine X.opw X.wN rfl (X.assign rfl) ?_
  refine X.opsEnd ?_
  refine X.seq ?_
  refine X.regionD (fun _ => False) 22 (by kernel_rfl) (by kernel_rfl) (fun w1 hk1 hz1 => ?_)
  refine X.dTake 0 rfl (by kernel_rfl) (by kernel_rfl) (by kernel_rfl) (X.dwN rfl) (fun w' hk' => X.move (v := .slice _ _ _) rfl) ?_
  refine X.dTake 1 rfl (by kernel_rfl) (by kernel_rfl) (by kernel_rfl) (X.dwN rfl) (fun w' hk' => X.idxS (hs.keep (hk1.trans hk')) Tryz.underlying43 Tryz.sizeOf5 rfl rfl ⟨by omega, by omega⟩) ?_
  refine X.dTake 2 rfl (by kernel_rfl) (by kernel_rfl) (by kernel_rfl) (X.dwN rfl) (fun w' hk' => X.loadS Tryz.isAgg5 (hs.keep (hk1.trans hk')) (j := 0) rfl rfl (fun _ h => by rw [h.1]; rfl)) ?_
  refine X.dTake 3 rfl (by kernel_rfl) (by kernel_rfl) (by kernel_rfl) (X.dwN rfl) (fun w' hk' => X.cvI Tryz.underlying5 Tryz.underlying68 rfl (cv8_32 _)) ?_
  refine X.dTake 4 rfl (by kernel_rfl) (by kernel_rfl) (by kernel_rfl) (X.dwN rfl) (fun w' hk' => X.move (v := .slice _ _ _) rfl) ?_
  refine X.dTake 5 rfl (by kernel_rfl) (by kernel_rfl) (by kernel_rfl) (X.dwN rfl) (fun w' hk' => X.idxS (hs.keep (hk1.trans hk')) Tryz.underlying43 Tryz.sizeOf5 rfl rfl ⟨by omega, by omega⟩) ?_
  refine X.dTake 6 rfl (by kernel_rfl) (by kernel_rfl) (by kernel_rfl) (X.dwN rfl) (fun w' hk' => X.loadS Tryz.isAgg5 (hs.keep (hk1.trans hk')) (j := 1) rfl rfl (fun _ h => by rw [h.1]; rfl)) ?_
  refine X.dTake 7 rfl (by kernel_rfl) (by kernel_rfl) (by kernel_rfl) (X.dwN rfl) (fun w' hk' => X.cvI Tryz.underlying5 Tryz.underlying68 rfl (cv8_32 _)) ?_
  refine X.dTake 8 rfl (by kernel_rfl) (by kernel_rfl) (by kernel_rfl) (X.dwN rfl) (fun w' hk' => X.shl rfl rfl (by decide) (shl32 _ 8 (by decide))) ?_
  refine X.dTake 9 rfl (by kernel_rfl) (by kernel_rfl) (by kernel_rfl) (X.dwN rfl) (fun w' hk' => X.or_ rfl rfl (or32 _ _)) ?_
  refine X.dTake 10 rfl (by kernel_rfl) (by kernel_rfl) (by kernel_rfl) (X.dwN rfl) (fun w' hk' => X.move (v := .slice _ _ _) rfl) ?_
  refine X.dTake 11 rfl (by kernel_rfl) (by kernel_rfl) (by kernel_rfl) (X.dwN rfl) (fun w' hk' => X.idxS (hs.keep (hk1.trans hk')) Tryz.underlying43 Tryz.sizeOf5 rfl rfl ⟨by omega, by omega⟩) ?_
  refine X.dTake 12 rfl (by kernel_rfl) (by kernel_rfl) (by kernel_rfl) (X.dwN rfl) (fun w' hk' => X.loadS Tryz.isAgg5 (hs.keep (hk1.trans hk')) (j := 2) rfl rfl (fun _ h => by rw [h.1]; rfl)) ?_
  refine X.dTake 13 rfl (by kernel_rfl) (by kernel_rfl) (by kernel_rfl) (X.dwN rfl) (fun w' hk' => X.cvI Tryz.underlying5 Tryz.underlying68 rfl (cv8_32 _)) ?_
  refine X.dTake 14 rfl (by kernel_rfl) (by kernel_rfl) (by kernel_rfl) (X.dwN rfl) (fun w' hk' => X.shl rfl rfl (by decide) (shl32 _ 16 (by decide))) ?_
  refine X.dTake 15 rfl (by kernel_rfl) (by kernel_rfl) (by kernel_rfl) (X.dwN rfl) (fun w' hk' => X.or_ rfl rfl (or32 _ _)) ?_
  refine X.dTake 16 rfl (by kernel_rfl) (by kernel_rfl) (by kernel_rfl) (X.dwN rfl) (fun w' hk' => X.move (v := .slice _ _ _) rfl) ?_
  refine X.dTake 17 rfl (by kernel_rfl) (by kernel_rfl) (by kernel_rfl) (X.dwN rfl) (fun w' hk' => X.idxS (hs.keep (hk1.trans hk')) Tryz.underlying43 Tryz.sizeOf5 rfl rfl ⟨by omega, by omega⟩) ?_
  refine X.dTake 18 rfl (by kernel_rfl) (by kernel_rfl) (by kernel_rfl) (X.dwN rfl) (fun w' hk' => X.loadS Tryz.isAgg5 (hs.keep (hk1.trans hk')) (j := 3) rfl rfl (fun _ h => by rw [h.1]; rfl)) ?_
  refine X.dTake 19 rfl (by kernel_rfl) (by kernel_rfl) (by kernel_rfl) (X.dwN rfl) (fun w' hk' => X.cvI Tryz.underlying5 Tryz.underlying68 rfl (cv8_32 _)) ?_
  refine X.dTake 20 rfl (by kernel_rfl) (by kernel_rfl) (by kernel_rfl) (X.dwN rfl) (fun w' hk' => X.shl rfl rfl (by decide) (shl32 _ 24 (by decide))) ?_
  refine X.dTake 21 rfl (by kernel_rfl) (by kernel_rfl) (by kernel_rfl) (X.dwN rfl) (fun w' hk' => X.or_ rfl rfl (or32 _ _)) ?_
  refine X.dStep (i := 22) (by kernel_rfl) rfl (X.dwN rfl) (X.assign (v := .int .u32 _) rfl) (fun h => absurd h (by decide)) ?_
  refine X.dEnd (by kernel_rfl) ?_
  refine X.ret1 (v := (.int .u32 _)) Tryz.func125 Tryz.results125 rfl ?_
  exact ⟨rfl, hk1⟩
set_option maxHeartbeats 4000000 in
set_option maxRecDepth 100000 in
theorem Grow_c (m : Int) (h0 : 0 ≤ m) (h1 : m ≤ 100000000) (w : World) : Ret Tryz.prog 144 #[.slice none 0 0, .int .i64 m] w fun v w' => Fresh KB 5 w w' v [] := by
  refine X.enter Tryz.func144 rfl Tryz.ntmps144 rfl ?_
  refine X.seq ?_
  refine X.region ?_
  refine X.opw X.wN rfl (X.assign rfl) ?_
  refine X.opsEnd ?_
  refine X.seq ?_
  refine X.seq ?_
  refine X.region ?_
  refine X.opw X.wN rfl (X.move (v := .int .i64 _) rfl) ?_
  refine X.opP X.wN rfl rfl (X.lss rfl rfl) (fun h6 => ?_) (fun h6 => ?_)
  · omega
  · refine X.opsEnd ?_
    refine X.condF rfl ?_
    refine X.skip ?_
    refine X.seq ?_
    refine X.seq ?_
    refine X.region ?_
    refine X.opw X.wN rfl (X.move (v := .int .i64 _) rfl) ?_
    refine X.opw X.wN rfl (X.move rfl) ?_
    refine X.opw X.wN rfl (X.capSl Tryz.underlying43 rfl) ?_
    refine X.opw X.wN rfl (X.move rfl) ?_
    refine X.opw X.wN rfl (X.lenSl Tryz.underlying43 rfl) ?_
    refine X.opw X.wN rfl (X.sub rfl rfl (X.w_i64 (by omega))) ?_
    refine X.opw X.wN rfl (X.sub rfl rfl (X.w_i64 (by omega))) ?_
    refine X.opw X.wN rfl (X.assign (v := .int .i64 _) rfl) ?_
    refine X.opsEnd ?_
    refine X.seq ?_
    refine X.region ?_
    refine X.opw X.wN rfl (X.move (v := .int .i64 _) rfl) ?_
    refine X.opP X.wN rfl rfl (X.gtr rfl rfl) (fun h16 => ?_) (fun h16 => ?_)
    · refine X.opsEnd ?_
      refine X.condT rfl ?_
      refine X.region ?_
      refine X.opw X.wN rfl (X.move rfl) ?_
      refine X.opw X.wN rfl (X.move rfl) ?_
      refine X.opw X.wN rfl (X.capSl Tryz.underlying43 rfl) ?_
      refine X.opw X.wN rfl (X.cutHr Tryz.underlying43 Tryz.sizeOf5 rfl rfl (by omega)) ?_
      refine X.opw X.wN rfl (X.move (v := .int .i64 _) rfl) ?_
      refine X.opE X.wN rfl (X.appMkE Tryz.underlying43 Tryz.underlying3 E8 rfl rfl (by omega) (by omega)) ?_
      rintro _ w1 ⟨cap1, rfl, hcap1, hN1, hk1, hz1⟩
      refine X.opw X.wN rfl (X.move rfl) ?_
      refine X.opw X.wN rfl (X.lenSl Tryz.underlying43 rfl) ?_
      refine X.opw X.wN rfl (X.cutHr Tryz.underlying43 Tryz.sizeOf5 rfl rfl (by omega)) ?_
      refine X.opw X.wN rfl (X.assign rfl) ?_
      refine X.opsEnd ?_
      refine X.seq ?_
      refine X.region ?_
      refine X.opw X.wN rfl (X.move rfl) ?_
      refine X.opw X.wN rfl (X.assign rfl) ?_
      refine X.opsEnd ?_
      refine X.ret1 Tryz.func144 Tryz.results144 rfl ?_
      exact ⟨(X.NewRow.mine (K := KB) hN1 zq26), hk1⟩
    · refine X.opsEnd ?_
      refine X.condF rfl ?_
      refine X.skip ?_
      refine X.seq ?_
      refine X.region ?_
      refine X.opw X.wN rfl (X.move rfl) ?_
      refine X.opw X.wN rfl (X.assign rfl) ?_
      refine X.opsEnd ?_
      refine X.ret1 Tryz.func144 Tryz.results144 rfl ?_
      exact ⟨(Mine.nil KB 5 (fun k => w.heap.size ≤ k) 0 0 w), (Keep.refl _)⟩
set_option maxHeartbeats 4000000 in
set_option maxRecDepth 100000 in
theorem Clone_c_crc {lo hi : Nat} {A : Option Addr} {n c : Nat} {l : List UInt8} (w : World) (hs : Sl KB lo hi w A n l) (hn : n ≤ 100000000) : Ret Tryz.prog 87 #[.slice A n c] w fun r w' => Fresh KB 5 w w' r l := by
  have hl := hs.len
  refine X.enter Tryz.func87 rfl Tryz.ntmps87 rfl ?_
  refine X.seq ?_
  refine X.region ?_
  refine X.opw X.wN rfl (X.assign rfl) ?_
  refine X.opsEnd ?_
  refine X.seq ?_
  refine X.seq ?_
  refine X.region ?_
  refine X.opw X.wN rfl (X.move (v := .slice _ _ _) rfl) ?_
  refine X.opB X.wN rfl rfl (X.eqNil Tryz.underlying43 rfl rfl) (fun h4 => ?_) (fun h4 => ?_)
  · refine X.opsEnd ?_
    refine X.condT rfl ?_
    refine X.seq ?_
    refine X.region ?_
    refine X.opw X.wN rfl (X.assign rfl) ?_
    refine X.opsEnd ?_
    refine X.ret1 Tryz.func87 Tryz.results87 rfl ?_
    refine ⟨?_, (Keep.refl _)⟩
    rcases Nat.eq_zero_or_pos n with h | h
    · have hq : l = [] := List.eq_nil_of_length_eq_zero (by omega)
      subst hq; exact (Mine.nil _ _ _ _ _ _)
    · obtain ⟨ad, e, _⟩ := hs.at_ h
      subst e; simp at h4
  · refine X.opsEnd ?_
    refine X.condF rfl ?_
    refine X.skip ?_
    refine X.seq ?_
    refine X.region ?_
    refine X.opE X.wN rfl (X.lit0E (K := KB) (S := fun k => w.heap.size ≤ k) Tryz.underlying43 Tryz.sizeOf5 zq26) ?_
    rintro v1 w1 ⟨hM1, hk1, hz1⟩
    refine X.opw X.wN rfl (X.move (v := .slice _ _ _) rfl) ?_
    refine X.opE X.wN rfl (X.appE (K := KB) (S := fun k => w.heap.size ≤ k) KB_flat Tryz.underlying43 E8 rfl rfl hM1 (hs.keep hk1) zq9 zq26) ?_
    rintro v2 w2 ⟨hM2, hx2⟩
    have hx2' := hx2.size
    refine X.opw X.wN rfl (X.assign rfl) ?_
    refine X.opsEnd ?_
    refine X.ret1 Tryz.func87 Tryz.results87 rfl ?_
    exact ⟨hM2, (hk1.step hx2 zq26)⟩
theorem flat_at {ls : List (List UInt8)} {i : Nat} {x : List UInt8} (h : ls[i]? = some x) : (ls.take (i + 1)).flatten = (ls.take i).flatten ++ x := by
  rw [take_at h, List.flatten_append]; simp
theorem flat_le {ls : List (List UInt8)} {i : Nat} {x : List UInt8} (h : ls[i]? = some x) : (ls.take i).flatten.length + x.length ≤ ls.flatten.length := by
  have e : ls.flatten = (ls.take (i + 1)).flatten ++ (ls.drop (i + 1)).flatten := by rw [← List.flatten_append, List.take_append_drop]
  rw [e, flat_at h]; simp
set_option maxHeartbeats 4000000 in
set_option maxRecDepth 100000 in
theorem Concat_c {lo hi lo2 hi2 : Nat} {A : Option Addr} {n c : Nat} {vs : List Value} {ls : List (List UInt8)} (w : World) (hs : Sl KR1 lo hi w A n vs) (hr : SlRows KB lo2 hi2 w vs ls) (hn : ls.flatten.length ≤ 10000000) : Ret Tryz.prog 104 #[.slice A n c] w fun r w' => Fresh KB 5 w w' r ls.flatten := by
  have hl := hs.len
  have hll := hr.len
  have hbd := hs.bound
  refine X.enter Tryz.func104 rfl Tryz.ntmps104 rfl ?_
  refine X.seq ?_
  refine X.region ?_
  refine X.opw X.wN rfl (X.assign rfl) ?_
  refine X.opsEnd ?_
  refine X.seq ?_
  refine X.region ?_
  refine X.opw X.wN rfl (X.assign rfl) ?_
  refine X.opsEnd ?_
  refine X.seq ?_
  refine X.seq ?_
  refine X.region ?_
  refine X.opw X.wN rfl (X.move (v := .slice _ _ _) rfl) ?_
  refine X.opw X.wN rfl (X.lenSl Tryz.underlying222 rfl) ?_
  refine X.opw X.wN rfl (X.move rfl) ?_
  refine X.opsEnd ?_
  refine X.block ?_
  refine X.loopL (σ := Nat) (fun s => [(0, .slice A n c), (3, .int .i64 (((ls.take s).flatten.length : Nat) : Int)), (9, .slice A n c), (10, .int .i64 (n : Int)), (11, .int .i64 (s : Int))]) (fun s w' => s ≤ n ∧ Keep w w') (fun s => n - s) 0 ⟨rfl, rfl, rfl, rfl, rfl, trivial⟩ ⟨by simp, (Keep.refl _)⟩ ?_
  rintro i b wl ⟨hi0, hk⟩ hback
  have hk' := hk.size
  refine X.seq ?_
  refine X.region ?_
  refine X.opP X.wN rfl rfl (X.lss rfl rfl) (fun h12 => ?_) (fun h12 => ?_)
  · obtain ⟨y, hx⟩ := getN i hl h12
    obtain ⟨x, A1, n1, c1, hy2, rfl, hc1, hs1⟩ := hr.get hx
    have hfl := flat_le hy2
    have hs1l := hs1.len
    refine X.opsEnd ?_
    refine X.seq ?_
    refine X.condT rfl ?_
    refine X.skip ?_
    refine X.seq ?_
    refine X.block ?_
    refine X.seq ?_
    refine X.region ?_
    refine X.opw X.wN rfl (X.idxS (hs.keep hk) Tryz.underlying222 Tryz.sizeOf43 rfl rfl ⟨by omega, by omega⟩) ?_
    refine X.opw X.wN rfl (X.loadS Tryz.isAgg43 (hs.keep hk) hx rfl (fun _ h => by rw [h.1]; rfl)) ?_
    refine X.opw X.wN rfl (X.assign rfl) ?_
    refine X.opsEnd ?_
    refine X.seq ?_
    refine X.region ?_
    refine X.opw X.wN rfl (X.move (v := .int .i64 _) rfl) ?_
    refine X.opw X.wN rfl (X.move rfl) ?_
    refine X.opw X.wN rfl (X.lenSl Tryz.underlying43 rfl) ?_
    refine X.opw X.wN rfl (X.add (c := (((ls.take (i + 1)).flatten.length : Nat) : Int)) rfl rfl (by rw [flat_at hy2, List.length_append, X.w_i64 (by omega)]; omega)) ?_
    refine X.opw X.wN rfl (X.assign (v := .int .i64 _) rfl) ?_
    refine X.opsEnd ?_
    refine X.seq ?_
    refine X.region ?_
    refine X.opw X.wN rfl (X.move (v := .int .i64 _) rfl) ?_
    refine X.opP X.wN rfl rfl (X.lss rfl rfl) (fun h20 => ?_) (fun h20 => ?_)
    · omega
    · refine X.opsEnd ?_
      refine X.condF rfl ?_
      refine X.skip ?_
      refine X.inBlock ?_
      refine X.region ?_
      refine X.opw X.wN rfl (X.add rfl rfl (X.w_i64 (by omega))) ?_
      refine X.opw X.wN rfl (X.move (v := .int .i64 _) rfl) ?_
      refine X.opsEnd ?_
      refine hback (i + 1) _ _ ⟨rfl, rfl, rfl, rfl, rfl, trivial⟩ ⟨by omega, hk⟩ (by omega)
  · have hfe : (ls.take i).flatten.length = ls.flatten.length := by rw [List.take_of_length_le (by omega)]
    refine X.opsEnd ?_
    refine X.seq ?_
    refine X.condF rfl ?_
    refine X.exit rfl ?_
    refine X.seq ?_
    refine X.region ?_
    refine X.opw X.wN rfl (X.move (v := .int .i64 _) rfl) ?_
    refine X.opE X.wN rfl (X.callE (Grow_c _ (by omega) (by omega) _) Tryz.call144 rfl rfl) ?_
    rintro v1 w1 ⟨hM1, hk1⟩
    have hk1' := hk1.size
    refine X.opw X.wN rfl (X.assign rfl) ?_
    refine X.opsEnd ?_
    refine X.seq ?_
    refine X.seq ?_
    refine X.region ?_
    refine X.opw X.wN rfl (X.move (v := .slice _ _ _) rfl) ?_
    refine X.opw X.wN rfl (X.lenSl Tryz.underlying222 rfl) ?_
    refine X.opw X.wN rfl (X.move rfl) ?_
    refine X.opsEnd ?_
    refine X.block ?_
    refine X.loopL (σ := Nat × Value) (fun s => [(6, s.2), (25, .slice A n c), (26, .int .i64 (n : Int)), (27, .int .i64 (s.1 : Int))]) (fun s w' => s.1 ≤ n ∧ Mine KB 5 (fun k => w.heap.size ≤ k) 0 0 w' s.2 (ls.take s.1).flatten ∧ Keep w w') (fun s => n - s.1) (0, _) ⟨rfl, rfl, rfl, rfl, trivial⟩ ⟨by simp, by dsimp only; exact hM1.step (fun k h => by (try simp only [] at *); omega), (hk.trans hk1)⟩ ?_
    rintro ⟨i, v⟩ b wl ⟨hi0, hM, hk⟩ hback
    dsimp only
    simp only at hi0 hM
    have hk' := hk.size
    refine X.seq ?_
    refine X.region ?_
    refine X.opP X.wN rfl rfl (X.lss rfl rfl) (fun h28 => ?_) (fun h28 => ?_)
    · obtain ⟨y, hx⟩ := getN i hl h28
      obtain ⟨x, A1, n1, c1, hy2, rfl, hc1, hs1⟩ := hr.get hx
      have hfl := flat_le hy2
      have hs1l := hs1.len
      refine X.opsEnd ?_
      refine X.seq ?_
      refine X.condT rfl ?_
      refine X.skip ?_
      refine X.seq ?_
      refine X.block ?_
      refine X.seq ?_
      refine X.region ?_
      refine X.opw X.wN rfl (X.idxS (hs.keep hk) Tryz.underlying222 Tryz.sizeOf43 rfl rfl ⟨by omega, by omega⟩) ?_
      refine X.opw X.wN rfl (X.loadS Tryz.isAgg43 (hs.keep hk) hx rfl (fun _ h => by rw [h.1]; rfl)) ?_
      refine X.opw X.wN rfl (X.assign (v := .slice _ _ _) rfl) ?_
      refine X.opsEnd ?_
      refine X.region ?_
      refine X.opw X.wN rfl (X.move rfl) ?_
      refine X.opw X.wN rfl (X.move (v := .slice _ _ _) rfl) ?_
      refine X.opE X.wN rfl (X.appE (K := KB) (S := fun k => w.heap.size ≤ k) KB_flat Tryz.underlying43 E8 rfl rfl hM (hs1.keep hk) zq9 zq26) ?_
      rintro v2 w2 ⟨hM2, hx2⟩
      have hx2' := hx2.size
      refine X.opw X.wN rfl (X.assign rfl) ?_
      refine X.opsEnd ?_
      refine X.inBlock ?_
      refine X.region ?_
      refine X.opw X.wN rfl (X.add rfl rfl (X.w_i64 (by omega))) ?_
      refine X.opw X.wN rfl (X.move (v := .int .i64 _) rfl) ?_
      refine X.opsEnd ?_
      refine hback (i + 1, _) _ _ ⟨rfl, rfl, rfl, rfl, trivial⟩ ⟨by dsimp only; omega, by dsimp only; rw [flat_at hy2]; exact hM2, (hk.step hx2 zq26)⟩ (by dsimp only; omega)
    · refine X.opsEnd ?_
      refine X.seq ?_
      refine X.condF rfl ?_
      refine X.exit rfl ?_
      refine X.seq ?_
      refine X.region ?_
      refine X.opw X.wN rfl (X.move rfl) ?_
      refine X.opw X.wN rfl (X.assign rfl) ?_
      refine X.opsEnd ?_
      refine X.ret1 Tryz.func104 Tryz.results104 rfl ?_
      refine ⟨?_, hk⟩
      rw [List.take_of_length_le (by omega)] at hM
      exact hM
end Go.Proofs.YtbljooblpfdbiaaGreatDoor
namespace Go.Proofs.YtbljooblpfdbiaaGreatDoor
open Go Go.Proofs.YtbljooblpfdbiaaGreatDoor.X
theorem seal_flat (l : List UInt8) : sealC l = [l, lowC (sumC l)].flatten := by simp [sealC]
theorem open_sh {l : List UInt8} {n : Nat} (hl : l.length = n) (h : (n : Int) - 4 < 0) : openC l = (41, []) := by rw [openC, if_pos (by omega)]
theorem open_bad {l : List UInt8} {n : Nat} (hl : l.length = n) (h : ¬ (n : Int) - 4 < 0) (h2 : ((sumC (l.take ((n : Int) - 4).toNat)).toNat : Int) ≠ ((numC (l.drop ((n : Int) - 4).toNat)).toNat : Int)) : openC l = (40, []) := by
  rw [show ((n : Int) - 4).toNat = l.length - 4 by omega] at h2
  rw [openC, if_neg (by omega), if_neg (fun e => h2 (by rw [e]))]
theorem open_ok {l : List UInt8} {n : Nat} (hl : l.length = n) (h : ¬ (n : Int) - 4 < 0) (h2 : ¬ ((sumC (l.take ((n : Int) - 4).toNat)).toNat : Int) ≠ ((numC (l.drop ((n : Int) - 4).toNat)).toNat : Int)) : openC l = (0, l.take ((n : Int) - 4).toNat) := by
  rw [show ((n : Int) - 4).toNat = l.length - 4 by omega] at h2 ⊢
  rw [openC, if_neg (by omega), if_pos (BitVec.eq_of_toNat_eq (by omega))]
set_option maxHeartbeats 4000000 in
set_option maxRecDepth 100000 in
theorem Seal_c {lo hi : Nat} {A : Option Addr} {n c : Nat} {l : List UInt8} (w : World) (hs : Sl KB lo hi w A n l) (hhi : hi ≤ w.heap.size) (hnc : n ≤ c) (hn : n ≤ 2000000) (hT : TabOk w) : Ret Tryz.prog 54 #[.slice A n c] w fun r w' => Fresh KB 5 w w' r (sealC l) := by
  have hl := hs.len
  have hlo : (lowC (sumC l)).length = 4 := rfl
  refine X.enter Tryz.func54 rfl Tryz.ntmps54 rfl ?_
  refine X.seq ?_
  refine X.region ?_
  refine X.opw X.wN rfl (X.assign rfl) ?_
  refine X.opsEnd ?_
  refine X.seq ?_
  refine X.region ?_
  refine X.opw X.wN rfl (X.move (v := .slice _ _ _) rfl) ?_
  refine X.opw X.wN rfl (X.move (v := .slice _ _ _) rfl) ?_
  refine X.opE X.wN rfl (X.callE (Sum_c _ hs (hT.keep (Keep.refl _))) Tryz.call106 rfl rfl) ?_
  rintro _ w1 ⟨rfl, hk1⟩
  have hk1' := hk1.size
  refine X.opE X.wN rfl (X.callE ((low_c _ _).mono freshB) Tryz.call105 rfl rfl) ?_
  rintro _ w2 ⟨A2, c2, rfl, hc2, hs2, hM2, hk2⟩
  have hk2' := hk2.size
  refine X.opE X.wN rfl (X.litKE (K := KR1) (xs := [Operand.tmp 3, Operand.tmp 6]) (vs := [.slice A n c, .slice A2 (lowC (sumC l)).length c2]) (ys := [.slice A n c, .slice A2 (lowC (sumC l)).length c2]) Tryz.underlying222 Tryz.sizeOf43 Tryz.zeroValue43 rfl rfl rfl rfl rfl ⟨⟨_, rfl, rfl, rfl⟩, ⟨_, rfl, rfl, rfl⟩, trivial⟩) ?_
  rintro _ w3 ⟨rfl, hs3, hB3, hk3, hz3⟩
  refine X.opE X.wN rfl (X.callE (Concat_c (lo2 := 0) (hi2 := w3.heap.size) (ls := [l, lowC (sumC l)]) _ hs3 ⟨⟨A, n, c, rfl, hnc, ((hs.keep ((hk1.trans hk2).trans hk3)).wide (Nat.zero_le _) (by omega))⟩, ⟨_, _, _, rfl, hc2, ((hs2.keep hk3).wide (Nat.zero_le _) (by omega))⟩, trivial⟩ (by simp only [List.flatten_cons, List.flatten_nil, List.length_append, List.length_nil, hlo, hl]; omega)) Tryz.call104 rfl rfl) ?_
  rintro v4 w4 ⟨hM4, hk4⟩
  have hk4' := hk4.size
  refine X.opw X.wN rfl (X.assign rfl) ?_
  refine X.opsEnd ?_
  refine X.ret1 Tryz.func54 Tryz.results54 rfl ?_
  exact ⟨by rw [seal_flat]; exact (hM4.step (T := fun k => w.heap.size ≤ k) (fun k h => by (try simp only [] at *); omega)), (((hk1.trans hk2).trans hk3).trans hk4)⟩
set_option maxHeartbeats 4000000 in
set_option maxRecDepth 100000 in
theorem RSeal_c {lo hi : Nat} {A : Option Addr} {n c : Nat} {l : List UInt8} (w : World) (hs : Sl KB lo hi w A n l) (hn : n ≤ 2000000) : Ret Tryz.prog 59 #[.slice A n c] w fun r w' => Fresh KB 5 w w' r (sealC l) := by
  have hl := hs.len
  have hlo : (lowC (sumC l)).length = 4 := rfl
  refine X.enter Tryz.func59 rfl Tryz.ntmps59 rfl ?_
  refine X.seq ?_
  refine X.region ?_
  refine X.opw X.wN rfl (X.assign rfl) ?_
  refine X.opsEnd ?_
  refine X.seq ?_
  refine X.region ?_
  refine X.opE X.wN rfl (X.lit0E (K := KB) (S := fun k => w.heap.size ≤ k) Tryz.underlying43 Tryz.sizeOf5 zq26) ?_
  rintro v1 w1 ⟨hM1, hk1, hz1⟩
  refine X.opw X.wN rfl (X.move (v := .slice _ _ _) rfl) ?_
  refine X.opE X.wN rfl (X.appE (K := KB) (S := fun k => w.heap.size ≤ k) KB_flat Tryz.underlying43 E8 rfl rfl hM1 (hs.keep hk1) zq9 zq26) ?_
  rintro v2 w2 ⟨hM2, hx2⟩
  have hx2' := hx2.size
  refine X.opw X.wN rfl (X.move (v := .slice _ _ _) rfl) ?_
  refine X.opE X.wN rfl (X.callE (RSum_c _ (hs.keep (hk1.step hx2 zq26))) Tryz.call109 rfl rfl) ?_
  rintro _ w3 ⟨rfl, hk3⟩
  have hk3' := hk3.size
  refine X.opE X.wN rfl (X.callE ((four_c _ _).mono freshB) Tryz.call108 rfl rfl) ?_
  rintro _ w4 ⟨A4, c4, rfl, hc4, hs4, hM4, hk4⟩
  have hk4' := hk4.size
  refine X.opE X.wN rfl (X.appE (K := KB) (S := fun k => w.heap.size ≤ k) KB_flat Tryz.underlying43 E8 rfl rfl (hM2.keep (hk3.trans hk4)) hs4 zq9 zq26) ?_
  rintro v5 w5 ⟨hM5, hx5⟩
  have hx5' := hx5.size
  refine X.opw X.wN rfl (X.assign rfl) ?_
  refine X.opsEnd ?_
  refine X.ret1 Tryz.func59 Tryz.results59 rfl ?_
  exact ⟨(hM5.step (T := fun k => w.heap.size ≤ k) (fun k h => by (try simp only [] at *); omega)), ((((hk1.step hx2 zq26).trans hk3).trans hk4).step hx5 zq26)⟩
set_option maxHeartbeats 4000000 in
set_option maxRecDepth 100000 in
theorem Open_c {lo hi : Nat} {A : Option Addr} {n c : Nat} {l : List UInt8} (w : World) (hs : Sl KB lo hi w A n l) (hnc : n ≤ c) (hn : n ≤ 2000000) (hT : TabOk w) : Ret Tryz.prog 92 #[.slice A n c] w fun r w' => ∃ v, r = .tuple #[v, .int .i64 (openC l).1] ∧ Fresh KB 5 w w' v (openC l).2 := by
  have hl := hs.len
  refine X.enter Tryz.func92 rfl Tryz.ntmps92 rfl ?_
  refine X.seq ?_
  refine X.region ?_
  refine X.opw X.wN rfl (X.assign rfl) ?_
  refine X.opw X.wN rfl (X.assign rfl) ?_
  refine X.opsEnd ?_
  refine X.seq ?_
  refine X.region ?_
  refine X.opw X.wN rfl (X.move (v := .slice _ _ _) rfl) ?_
  refine X.opw X.wN rfl (X.lenSl Tryz.underlying43 rfl) ?_
  refine X.opw X.wN rfl (X.sub rfl rfl (X.w_i64 (by omega))) ?_
  refine X.opw X.wN rfl (X.assign (v := .int .i64 _) rfl) ?_
  refine X.opsEnd ?_
  refine X.seq ?_
  refine X.block ?_
  refine X.seq ?_
  refine X.region ?_
  refine X.opw X.wN rfl (X.move (v := .int .i64 _) rfl) ?_
  refine X.opP X.wN rfl rfl (X.lss rfl rfl) (fun h10 => ?_) (fun h10 => ?_)
  · refine X.opw X.wN rfl (X.assign (v := .bool true) rfl) ?_
    refine X.opsEnd ?_
    refine X.condT rfl ?_
    refine X.seq ?_
    refine X.region ?_
    refine X.opw X.wN rfl (X.assign rfl) ?_
    refine X.opw X.wN rfl (X.assign rfl) ?_
    refine X.opsEnd ?_
    refine X.ret2 (v2 := (.int .i64 _)) Tryz.func92 Tryz.results92 rfl rfl ?_
    rw [open_sh hl h10]
    exact ⟨_, rfl, ((Mine.nil _ _ _ _ _ _).step (T := fun k => w.heap.size ≤ k) (fun k h => by (try simp only [] at *); omega)), (Keep.refl _)⟩
  · refine X.opw X.wN rfl (X.assign (v := .bool false) rfl) ?_
    refine X.opsEnd ?_
    refine X.condF rfl ?_
    refine X.seq ?_
    refine X.regionD (fun _ => False) 10 (by kernel_rfl) (by kernel_rfl) (fun w1 hk1 hz1 => ?_)
    refine X.dTake 0 rfl (by kernel_rfl) (by kernel_rfl) (by kernel_rfl) (X.dwN rfl) (fun w' hk' => X.move (v := .slice _ _ _) rfl) ?_
    refine X.dTake 1 rfl (by kernel_rfl) (by kernel_rfl) (by kernel_rfl) (X.dwN rfl) (fun w' hk' => X.move (v := .int .i64 _) rfl) ?_
    refine X.dTake 2 rfl (by kernel_rfl) (by kernel_rfl) (by kernel_rfl) (X.dwN rfl) (fun w' hk' => X.cutHr Tryz.underlying43 Tryz.sizeOf5 rfl rfl (by omega)) ?_
    refine X.dTake 4 rfl (by kernel_rfl) (by kernel_rfl) (by kernel_rfl) (X.dwN rfl) (fun w' hk' => X.move (v := .slice _ _ _) rfl) ?_
    refine X.dTake 5 rfl (by kernel_rfl) (by kernel_rfl) (by kernel_rfl) (X.dwN rfl) (fun w' hk' => X.move (v := .int .i64 _) rfl) ?_
    refine X.dTake 6 rfl (by kernel_rfl) (by kernel_rfl) (by kernel_rfl) (X.dwN rfl) (fun w' hk' => X.cutL Tryz.underlying43 Tryz.sizeOf5 rfl rfl (by omega)) ?_
    refine X.dE (i := 3) (by kernel_rfl) rfl (X.dwN rfl) (X.callE (Sum_c _ ((hs.take ((n : Int) - 4).toNat (by omega)).keep hk1) (hT.keep hk1)) Tryz.call106 rfl rfl) (by rintro _ w2 ⟨rfl, hk2⟩ _; exact hk2.mono (fun _ _ h => h.elim)) ?_
    rintro _ w2 ⟨rfl, hk2⟩
    have hk2' := hk2.size
    refine X.dE (i := 7) (by kernel_rfl) rfl (X.dwN rfl) (X.callE (number_c _ ((hs.drop ((n : Int) - 4).toNat c (by omega) hnc).keep (hk1.trans hk2)) (by omega)) Tryz.call125 rfl rfl) (by rintro _ w3 ⟨rfl, hk3⟩ _; exact hk3.mono (fun _ _ h => h.elim)) ?_
    rintro _ w3 ⟨rfl, hk3⟩
    have hk3' := hk3.size
    refine X.dTake 8 rfl (by kernel_rfl) (by kernel_rfl) (by kernel_rfl) (X.dwN rfl) (fun w' hk' => X.neI rfl rfl) ?_
    refine X.dTake 9 rfl (by kernel_rfl) (by kernel_rfl) (by kernel_rfl) (X.dwN rfl) (fun w' hk' => X.assign (v := .bool _) rfl) ?_
    refine X.dEnd (by kernel_rfl) ?_
    refine X.condB rfl (fun hc => ?_) (fun hc => ?_)
    · refine X.seq ?_
      refine X.region ?_
      refine X.opw X.wN rfl (X.assign rfl) ?_
      refine X.opw X.wN rfl (X.assign rfl) ?_
      refine X.opsEnd ?_
      refine X.ret2 (v2 := (.int .i64 _)) Tryz.func92 Tryz.results92 rfl rfl ?_
      rw [open_bad hl h10 (of_decide_eq_true hc)]
      exact ⟨_, rfl, ((Mine.nil _ _ _ _ _ _).step (T := fun k => w.heap.size ≤ k) (fun k h => by (try simp only [] at *); omega)), ((hk1.trans hk2).trans hk3)⟩
    · refine X.skip ?_
      refine X.inBlock ?_
      refine X.seq ?_
      refine X.region ?_
      refine X.opw X.wN rfl (X.move (v := .slice _ _ _) rfl) ?_
      refine X.opw X.wN rfl (X.move (v := .int .i64 _) rfl) ?_
      refine X.opw X.wN rfl (X.cutHr Tryz.underlying43 Tryz.sizeOf5 rfl rfl (by omega)) ?_
      refine X.opE X.wN rfl (X.callE ((Clone_c_crc _ ((hs.take ((n : Int) - 4).toNat (by omega)).keep ((hk1.trans hk2).trans hk3)) (by omega)).mono freshB) Tryz.call87 rfl rfl) ?_
      rintro _ w4 ⟨A4, c4, rfl, hc4, hs4, hM4, hk4⟩
      have hk4' := hk4.size
      refine X.opw X.wN rfl (X.assign rfl) ?_
      refine X.opw X.wN rfl (X.assign rfl) ?_
      refine X.opsEnd ?_
      refine X.ret2 (v2 := (.int .i64 _)) Tryz.func92 Tryz.results92 rfl rfl ?_
      rw [open_ok hl h10 (of_decide_eq_false hc)]
      exact ⟨_, rfl, (hM4.step (T := fun k => w.heap.size ≤ k) (fun k h => by (try simp only [] at *); omega)), (((hk1.trans hk2).trans hk3).trans hk4)⟩
end Go.Proofs.YtbljooblpfdbiaaGreatDoor
namespace Go.Proofs.YtbljooblpfdbiaaGreatDoor
open Go Go.Proofs.YtbljooblpfdbiaaGreatDoor.X
theorem seal_len (l : List UInt8) : (sealC l).length = l.length + 4 := by simp [sealC, lowC]
theorem C32_at (c : UInt8) (i : Nat) : (C32 c).getLsbD i = (decide (i < 32) && c.toNat.testBit i) := by
  rw [C32, BitVec.getLsbD_ofNat]
theorem num_low (r : R32) : numC (lowC r) = r := by
  show num4 _ _ _ _ = r
  apply BitVec.eq_of_getLsbD_eq
  intro i hi
  have h8 : ∀ (x : R32) (j : Nat), (C32 (UInt8.ofNat x.toNat)).getLsbD j = (decide (j < 8) && x.getLsbD j) := by
    intro x j
    rw [C32_at, UInt8.toNat_ofNat', show (2 : Nat) ^ 8 = 2 ^ 8 from rfl, Nat.testBit_mod_two_pow]
    by_cases h : j < 8
    · simp [h, show j < 32 by omega, BitVec.getLsbD]
    · simp [h]
  simp only [num4, BitVec.getLsbD_or, BitVec.getLsbD_shiftLeft, h8, BitVec.getLsbD_ushiftRight, hi, decide_true, Bool.true_and]
  by_cases h1 : i < 8
  · simp [h1, show i < 16 by omega, show i < 24 by omega]
  · by_cases h2 : i < 16
    · simp [h1, h2, show i - 8 < 8 by omega, show i < 24 by omega, show 8 + (i - 8) = i by omega]
    · by_cases h3 : i < 24
      · simp [h1, h2, h3, show ¬ i - 8 < 8 by omega, show i - 16 < 8 by omega, show 16 + (i - 16) = i by omega]
      · simp [h1, h2, h3, show ¬ i - 8 < 8 by omega, show ¬ i - 16 < 8 by omega, show i - 24 < 8 by omega, show 24 + (i - 24) = i by omega]
theorem open_seal (l : List UInt8) : openC (sealC l) = (0, l) := by
  have h := seal_len l
  have h1 : (sealC l).take ((sealC l).length - 4) = l := by rw [h, Nat.add_sub_cancel, sealC, List.take_left]
  have h2 : (sealC l).drop ((sealC l).length - 4) = lowC (sumC l) := by rw [h, Nat.add_sub_cancel, sealC, List.drop_left]
  rw [openC, if_neg (by omega), h1, h2, num_low, if_pos rfl]
end Go.Proofs.YtbljooblpfdbiaaGreatDoor
namespace Go.Proofs.YtbljooblpfdbiaaGreatDoor
open Go Go.Proofs.YtbljooblpfdbiaaGreatDoor.X
def HdC (lo hi : Nat) (w : World) (L : List CT) (l : List CD) : Prop := L.length = l.length ∧ ∀ (i : Nat) (x : CT), L[i]? = some x → ∃ q, l[i]? = some q ∧ x.2 = q.2 ∧ okI q.2 ∧ x.1.2.1 ≤ x.1.2.2 ∧ Sl KV lo hi w x.1.1 x.1.2.1 q.1
theorem kc_hd {lo hi : Nat} {w : World} {A : Option Addr} {n : Nat} {l : List CD} (h : Sl KC lo hi w A n l) : ∃ L, Sl KCt lo hi w A n L ∧ HdC lo hi w L l := by
  rcases Nat.eq_zero_or_pos n with hn | hn
  · subst hn
    have : l = [] := List.eq_nil_of_length_eq_zero h.len
    subst this
    exact ⟨[], Sl.nil _ _ _ _ _, rfl, fun i x hx => by simp at hx⟩
  obtain ⟨ad, e, h1, h2, hc⟩ := h.at_ hn
  obtain ⟨L, q1, q2⟩ := list_choose (l := l) (β := CT) (Q := fun j x y => (∀ i u, ([.slice y.1.1 y.1.2.1 y.1.2.2, .int .i64 y.2] : List Value)[i]? = some u → w.cell? (ad.add (j * 2 + i)) = some u) ∧ y.2 = x.2 ∧ okI x.2 ∧ y.1.2.1 ≤ y.1.2.2 ∧ Sl KV lo hi w y.1.1 y.1.2.1 x.1) (fun j x hx => by
    obtain ⟨cs, ⟨a, b, rfl, ⟨A', n', c', rfl, hnc, hs⟩, hb, hi'⟩, hq⟩ := hc j x hx
    subst hb
    exact ⟨((A', n', c'), x.2), fun i u hu => hq i u hu, rfl, hi', hnc, hs⟩)
  refine ⟨L, ⟨by rw [q1]; exact h.len, h.bound, fun _ => ⟨ad, e, h1, h2, fun j y hy => ?_⟩⟩, q1, fun i x hx => ?_⟩
  · have hj : j < l.length := by rw [← q1]; exact (List.getElem?_eq_some_iff.1 hy).1
    obtain ⟨y', g1, g2, _⟩ := q2 j _ (List.getElem?_eq_getElem hj)
    rw [hy] at g1; cases g1
    exact ⟨_, ⟨rfl, trivial⟩, g2⟩
  · have hj : i < l.length := by rw [← q1]; exact (List.getElem?_eq_some_iff.1 hx).1
    obtain ⟨y', g1, _, g2, g3, g4, g5⟩ := q2 i _ (List.getElem?_eq_getElem hj)
    rw [hx] at g1; cases g1
    exact ⟨_, List.getElem?_eq_getElem hj, g2, g3, g4, g5⟩
theorem hd_kc {lo hi : Nat} {w : World} {A : Option Addr} {n : Nat} {L : List CT} {l : List CD} (h : Sl KCt lo hi w A n L) (ht : HdC lo hi w L l) : Sl KC lo hi w A n l := by
  refine ⟨by rw [← ht.1]; exact h.len, h.bound, fun hn => ?_⟩
  obtain ⟨ad, e, h1, h2, hc⟩ := h.at_ hn
  refine ⟨ad, e, h1, h2, fun j q hq => ?_⟩
  obtain ⟨x, hx⟩ : ∃ x, L[j]? = some x := ⟨_, List.getElem?_eq_getElem (by rw [ht.1]; exact (List.getElem?_eq_some_iff.1 hq).1)⟩
  obtain ⟨q', g1, g2, g3, g4, g6⟩ := ht.2 j x hx
  rw [hq] at g1; cases g1
  obtain ⟨cs, ⟨hcs, _⟩, hq2⟩ := hc j x hx
  subst hcs
  exact ⟨[.slice x.1.1 x.1.2.1 x.1.2.2] ++ [.int .i64 x.2], ⟨_, _, rfl, ⟨_, _, _, rfl, g4, g6⟩, by rw [g2], g3⟩, fun i u hu => by rw [show KC.sz = KCt.sz from rfl]; exact hq2 i u hu⟩
theorem kc_ok {lo hi : Nat} {w : World} {A : Option Addr} {n : Nat} {l : List CD} (h : Sl KC lo hi w A n l) : ∀ q, q ∈ l → okI q.2 ∧ ∀ v, v ∈ q.1 → okV v := fun q hq => by
  obtain ⟨j, hj⟩ := List.getElem?_of_mem hq
  obtain ⟨ad, cs, _, ⟨a, b, _, ⟨A', n', c', _, _, hs⟩, _, hi'⟩, _⟩ := h.get j q hj
  exact ⟨hi', fun v hv => let ⟨k, hk⟩ := List.getElem?_of_mem hv; KV_ok hs k v hk⟩
def okAt (l : List CD) (i : Nat) : Bool := match l[i]? with
  | none => true
  | some q => isT q.1 && (!decide (q.2 = 0) && (decide (i = 0) || match l[i - 1]? with
    | none => true
    | some p => decide (cmpT p.1 q.1 < 0)))
def isR (l : List CD) : Bool := (List.range l.length).all (okAt l)
section
variable {l : List CD} {i : Nat} {q p : CD}
theorem isR_T (h : ∀ j, j < l.length → okAt l j = true) : isR l = true := List.all_eq_true.2 fun j hj => h j (List.mem_range.1 hj)
theorem isR_at (h : isR l = true) (i : Nat) : okAt l i = true := by
  by_cases hi : i < l.length
  · exact List.all_eq_true.1 h i (List.mem_range.2 hi)
  · rw [okAt, List.getElem?_eq_none (by omega)]
theorem isR_F (hq : l[i]? = some q) (h : okAt l i = false) : isR l = false := by
  cases hr : isR l with
  | false => rfl
  | true => rw [isR_at hr i] at h; cases h
theorem okAt_1 (hq : l[i]? = some q) (h : isT q.1 = false) : okAt l i = false := by rw [okAt, hq]; simp [h]
theorem okAt_2 (hq : l[i]? = some q) (h : q.2 = 0) : okAt l i = false := by rw [okAt, hq]; simp [h]
theorem okAt_3 (hq : l[i]? = some q) (h0 : 0 < i) (hp : l[i - 1]? = some p) (h : 0 ≤ cmpT p.1 q.1) : okAt l i = false := by
  rw [okAt, hq]
  simp only [hp]
  rw [decide_eq_false (show ¬ i = 0 by omega), decide_eq_false (show ¬ cmpT p.1 q.1 < 0 by omega)]; simp
theorem okAt_T0 (hq : l[i]? = some q) (h1 : isT q.1 = true) (h2 : q.2 ≠ 0) (h0 : i = 0) : okAt l i = true := by
  rw [okAt, hq]; simp [h1, h2, h0]
theorem okAt_T (hq : l[i]? = some q) (h1 : isT q.1 = true) (h2 : q.2 ≠ 0) (hp : l[i - 1]? = some p) (h : cmpT p.1 q.1 < 0) : okAt l i = true := by
  rw [okAt, hq]; simp [h1, h2, hp, h]
theorem okAt_t (hq : l[i]? = some q) (h : okAt l i = true) : isT q.1 = true ∧ q.2 ≠ 0 ∧ (0 < i → ∀ p, l[i - 1]? = some p → cmpT p.1 q.1 < 0) := by
  rw [okAt, hq] at h
  simp only [Bool.and_eq_true, Bool.not_eq_true', decide_eq_false_iff_not] at h
  refine ⟨h.1, h.2.1, fun h0 p hp => ?_⟩
  have h3 := h.2.2
  rw [hp, decide_eq_false (show ¬ i = 0 by omega)] at h3
  simpa using h3
end
theorem isT_no {l : List VAL} (h : ¬ l.length ≤ 8) : isT l = false := by rw [isT, decide_eq_false h, Bool.and_false]
theorem isT_bad {l : List VAL} {i : Nat} {v : VAL} (hv : l[i]? = some v) (h : isV v = false) : isT l = false := by
  rw [isT, List.all_eq_false.2 ⟨v, List.mem_of_getElem? hv, by simp [h]⟩, Bool.false_and]
theorem isT_yes {l : List VAL} (h8 : l.length ≤ 8) (h : ∀ (j : Nat) v, j < l.length → l[j]? = some v → isV v = true) : isT l = true := by
  rw [isT, decide_eq_true h8, Bool.and_true]
  refine List.all_eq_true.2 fun v hv => ?_
  obtain ⟨j, hj⟩ := List.getElem?_of_mem hv
  exact h j v (List.getElem?_eq_some_iff.1 hj).1 hj
theorem take_step {l : List VAL} {i : Nat} {v : VAL} (hv : l[i]? = some v) (h : isV v = true) (hI : ∀ (j : Nat) u, j < i → l[j]? = some u → isV u = true) : ∀ (j : Nat) u, j < i + 1 → l[j]? = some u → isV u = true := fun j u hj hu => by
  rcases Nat.lt_or_ge j i with h1 | h1
  · exact hI j u h1 hu
  · have : j = i := by omega
    subst this; rw [hv] at hu; cases hu; exact h
set_option maxHeartbeats 4000000 in
set_option maxRecDepth 100000 in
theorem tCheck_c {lo hi : Nat} {A : Option Addr} {n c : Nat} {l : List VAL} (w : World) (hs : Sl KV lo hi w A n l) : Ret Tryz.prog 62 #[.slice A n c] w fun r w' => r = .int .i64 (if isT l then 0 else 20) ∧ Keep w w' := by
  have hsl := hs.len
  have hsb := hs.bound
  refine X.enter Tryz.func62 rfl Tryz.ntmps62 rfl ?_
  refine X.seq ?_
  refine X.region ?_
  refine X.opw X.wN rfl (X.assign rfl) ?_
  refine X.opsEnd ?_
  refine X.seq ?_
  refine X.seq ?_
  refine X.region ?_
  refine X.opw X.wN rfl (X.move (v := .slice _ _ _) rfl) ?_
  refine X.opw X.wN rfl (X.lenSl Tryz.underlying38 rfl) ?_
  refine X.opP X.wN rfl rfl (X.gtr rfl rfl) (fun h7 => ?_) (fun h7 => ?_)
  · refine X.opsEnd ?_
    refine X.condT rfl ?_
    refine X.seq ?_
    refine X.region ?_
    refine X.opw X.wN rfl (X.assign rfl) ?_
    refine X.opsEnd ?_
    refine X.ret1 (v := (.int .i64 _)) Tryz.func62 Tryz.results62 rfl ?_
    rw [isT_no (by omega)]; exact ⟨rfl, (Keep.refl _)⟩
  · refine X.opsEnd ?_
    refine X.condF rfl ?_
    refine X.skip ?_
    refine X.seq ?_
    refine X.seq ?_
    refine X.region ?_
    refine X.opw X.wN rfl (X.move (v := .slice _ _ _) rfl) ?_
    refine X.opw X.wN rfl (X.lenSl Tryz.underlying38 rfl) ?_
    refine X.opw X.wN rfl (X.move rfl) ?_
    refine X.opsEnd ?_
    refine X.block ?_
    refine X.loopL (σ := Nat) (fun s => [(8, .slice A n c), (9, .int .i64 (n : Int)), (10, .int .i64 (s : Int))]) (fun s w' => s ≤ n ∧ (∀ (j : Nat) u, j < s → l[j]? = some u → isV u = true) ∧ Keep w w') (fun s => n - s) 0 ⟨rfl, rfl, rfl, trivial⟩ ⟨by omega, fun j _ h => absurd h (by omega), (Keep.refl _)⟩ ?_
    rintro i b w1 ⟨hi, hI, hk⟩ hback
    have hk0 := hk.size
    refine X.seq ?_
    refine X.region ?_
    refine X.opP X.wN rfl rfl (X.lss rfl rfl) (fun h11 => ?_) (fun h11 => ?_)
    · obtain ⟨v, hx⟩ : ∃ v, l[i]? = some v := ⟨_, List.getElem?_eq_getElem (by omega)⟩
      refine X.opsEnd ?_
      refine X.seq ?_
      refine X.condT rfl ?_
      refine X.skip ?_
      refine X.seq ?_
      refine X.block ?_
      refine X.seq ?_
      refine X.region ?_
      refine X.opw X.wN rfl (X.idxS (hs.keep hk) Tryz.underlying38 Tryz.sizeOf90 rfl rfl ⟨by omega, by omega⟩) ?_
      refine X.opw X.wN rfl (X.loadSN Tryz.isAgg90 Tryz.sizeOf90 (hs.keep hk) hx rfl (fun _ h => h.1) rfl) ?_
      refine X.opE X.wN rfl (X.allocE Tryz.zeroValue90 rfl) ?_
      rintro _ w1 ⟨rfl, hB1, hk1, hz1⟩
      refine X.opE X.wN rfl (X.storeNE Tryz.sizeOf90 hB1 rfl rfl rfl rfl (encV_one _)) ?_
      rintro _ w2 ⟨hB2, hx2, hz2⟩
      refine X.opsEnd ?_
      refine X.seq ?_
      refine X.region ?_
      refine X.opw X.wN rfl (X.loadNB Tryz.isAgg90 Tryz.sizeOf90 hB2 rfl rfl rfl) ?_
      refine X.opE X.wN rfl (X.callE (Check_c _ _) Tryz.call110 rfl rfl) ?_
      rintro _ w3 ⟨rfl, hk3⟩
      have hk3' := hk3.size
      refine X.opP X.wN rfl rfl (X.neI rfl rfl) (fun h16 => ?_) (fun h16 => ?_)
      · refine X.opsEnd ?_
        refine X.condT rfl ?_
        refine X.seq ?_
        refine X.region ?_
        refine X.opw X.wN rfl (X.assign rfl) ?_
        refine X.opsEnd ?_
        refine X.ret1 (v := (.int .i64 _)) Tryz.func62 Tryz.results62 rfl ?_
        have hv : isV v = false := by cases hv : isV v with | false => rfl | true => rw [hv] at h16; simp at h16
        rw [isT_bad hx hv]; exact ⟨rfl, (((hk.trans hk1).step hx2 zq26).trans hk3)⟩
      · refine X.opsEnd ?_
        refine X.condF rfl ?_
        refine X.skip ?_
        refine X.inBlock ?_
        refine X.region ?_
        refine X.opw X.wN rfl (X.add rfl rfl (X.w_i64 (by omega))) ?_
        refine X.opw X.wN rfl (X.move (v := .int .i64 _) rfl) ?_
        refine X.opsEnd ?_
        refine hback (i + 1) _ _ ⟨rfl, rfl, rfl, trivial⟩ ⟨by omega, take_step hx ((by cases hv : isV v with | true => rfl | false => rw [hv] at h16; simp at h16)) hI, (((hk.trans hk1).step hx2 zq26).trans hk3)⟩ (by omega)
    · refine X.opsEnd ?_
      refine X.seq ?_
      refine X.condF rfl ?_
      refine X.exit rfl ?_
      refine X.seq ?_
      refine X.region ?_
      refine X.opw X.wN rfl (X.assign rfl) ?_
      refine X.opsEnd ?_
      refine X.ret1 (v := (.int .i64 _)) Tryz.func62 Tryz.results62 rfl ?_
      rw [isT_yes (by omega) (fun j u hj hu => hI j u (by omega) hu)]; exact ⟨rfl, hk⟩
set_option maxHeartbeats 4000000 in
set_option maxRecDepth 100000 in
theorem R02Check_c {lo hi : Nat} {A : Option Addr} {n c : Nat} {l : List VAL} (w : World) (hs : Sl KV lo hi w A n l) : Ret Tryz.prog 35 #[.slice A n c] w fun r w' => r = .int .i64 (if isT l then 0 else 20) ∧ Keep w w' := by
  have hsl := hs.len
  have hsb := hs.bound
  refine X.enter Tryz.func35 rfl Tryz.ntmps35 rfl ?_
  refine X.seq ?_
  refine X.region ?_
  refine X.opw X.wN rfl (X.assign rfl) ?_
  refine X.opsEnd ?_
  refine X.seq ?_
  refine X.seq ?_
  refine X.region ?_
  refine X.opw X.wN rfl (X.move (v := .slice _ _ _) rfl) ?_
  refine X.opw X.wN rfl (X.lenSl Tryz.underlying38 rfl) ?_
  refine X.opP X.wN rfl rfl (X.gtr rfl rfl) (fun h6 => ?_) (fun h6 => ?_)
  · refine X.opsEnd ?_
    refine X.condT rfl ?_
    refine X.seq ?_
    refine X.region ?_
    refine X.opw X.wN rfl (X.assign rfl) ?_
    refine X.opsEnd ?_
    refine X.ret1 (v := (.int .i64 _)) Tryz.func35 Tryz.results35 rfl ?_
    rw [isT_no (by omega)]; exact ⟨rfl, (Keep.refl _)⟩
  · refine X.opsEnd ?_
    refine X.condF rfl ?_
    refine X.skip ?_
    refine X.seq ?_
    refine X.seq ?_
    refine X.region ?_
    refine X.opw X.wN rfl (X.assign rfl) ?_
    refine X.opsEnd ?_
    refine X.block ?_
    refine X.loopL (σ := Nat) (fun s => [(0, .slice A n c), (3, .int .i64 (s : Int))]) (fun s w' => s ≤ n ∧ (∀ (j : Nat) u, j < s → l[j]? = some u → isV u = true) ∧ Keep w w') (fun s => n - s) 0 ⟨rfl, rfl, trivial⟩ ⟨by omega, fun j _ h => absurd h (by omega), (Keep.refl _)⟩ ?_
    rintro i b w1 ⟨hi, hI, hk⟩ hback
    have hk0 := hk.size
    refine X.seq ?_
    refine X.seq ?_
    refine X.region ?_
    refine X.opw X.wN rfl (X.move (v := .int .i64 _) rfl) ?_
    refine X.opw X.wN rfl (X.move (v := .slice _ _ _) rfl) ?_
    refine X.opw X.wN rfl (X.lenSl Tryz.underlying38 rfl) ?_
    refine X.opP X.wN rfl rfl (X.lss rfl rfl) (fun h10 => ?_) (fun h10 => ?_)
    · obtain ⟨v, hx⟩ : ∃ v, l[i]? = some v := ⟨_, List.getElem?_eq_getElem (by omega)⟩
      refine X.opsEnd ?_
      refine X.condT rfl ?_
      refine X.skip ?_
      refine X.seq ?_
      refine X.block ?_
      refine X.seq ?_
      refine X.region ?_
      refine X.opw X.wN rfl (X.move (v := .slice _ _ _) rfl) ?_
      refine X.opw X.wN rfl (X.move (v := .int .i64 _) rfl) ?_
      refine X.opw X.wN rfl (X.idxS (hs.keep hk) Tryz.underlying38 Tryz.sizeOf90 rfl rfl ⟨by omega, by omega⟩) ?_
      refine X.opw X.wN rfl (X.loadSN Tryz.isAgg90 Tryz.sizeOf90 (hs.keep hk) hx rfl (fun _ h => h.1) rfl) ?_
      refine X.opE X.wN rfl (X.callE (R01Is_c _ _) Tryz.call83 rfl rfl) ?_
      rintro _ w1 ⟨rfl, hk1⟩
      have hk1' := hk1.size
      refine X.opw X.wN rfl (X.not_ rfl) ?_
      refine X.opsEnd ?_
      refine X.condB rfl (fun hc => ?_) (fun hc => ?_)
      · refine X.seq ?_
        refine X.region ?_
        refine X.opw X.wN rfl (X.assign rfl) ?_
        refine X.opsEnd ?_
        refine X.ret1 (v := (.int .i64 _)) Tryz.func35 Tryz.results35 rfl ?_
        rw [isT_bad hx (by simpa using hc)]; exact ⟨rfl, (hk.trans hk1)⟩
      · refine X.skip ?_
        refine X.inBlock ?_
        refine X.region ?_
        refine X.opw X.wN rfl (X.move (v := .int .i64 _) rfl) ?_
        refine X.opw X.wN rfl (X.add rfl rfl (X.w_i64 (by omega))) ?_
        refine X.opw X.wN rfl (X.assign (v := .int .i64 _) rfl) ?_
        refine X.opsEnd ?_
        refine hback (i + 1) _ _ ⟨rfl, rfl, trivial⟩ ⟨by omega, take_step hx (by simpa using hc) hI, (hk.trans hk1)⟩ (by omega)
    · refine X.opsEnd ?_
      refine X.condF rfl ?_
      refine X.exit rfl ?_
      refine X.seq ?_
      refine X.region ?_
      refine X.opw X.wN rfl (X.assign rfl) ?_
      refine X.opsEnd ?_
      refine X.ret1 (v := (.int .i64 _)) Tryz.func35 Tryz.results35 rfl ?_
      rw [isT_yes (by omega) (fun j u hj hu => hI j u (by omega) hu)]; exact ⟨rfl, hk⟩
end Go.Proofs.YtbljooblpfdbiaaGreatDoor
namespace Go.Proofs.YtbljooblpfdbiaaGreatDoor
open Go Go.Proofs.YtbljooblpfdbiaaGreatDoor.X
theorem ok_step {l : List CD} {i : Nat} (h : okAt l i = true) (hI : ∀ j, j < i → okAt l j = true) : ∀ j, j < i + 1 → okAt l j = true := fun j hj => by
  rcases Nat.lt_or_ge j i with h1 | h1
  · exact hI j h1
  · have : j = i := by omega
    subst this; exact h
set_option maxHeartbeats 4000000 in
set_option maxRecDepth 100000 in
theorem rCheck_c {lo hi : Nat} {A : Option Addr} {n c : Nat} {l : List CD} (w : World) (hs : Sl KC lo hi w A n l) (hhi : hi ≤ w.heap.size) : Ret Tryz.prog 21 #[.slice A n c] w fun r w' => r = .int .i64 (if isR l then 0 else 70) ∧ Keep w w' := by
  obtain ⟨L, hsL, hLl, hLt⟩ := kc_hd hs
  have hsl := hs.len
  have hsb := hs.bound
  refine X.enter Tryz.func21 rfl Tryz.ntmps21 rfl ?_
  refine X.seq ?_
  refine X.region ?_
  refine X.opw X.wN rfl (X.assign rfl) ?_
  refine X.opsEnd ?_
  refine X.seq ?_
  refine X.seq ?_
  refine X.region ?_
  refine X.opw X.wN rfl (X.move (v := .slice _ _ _) rfl) ?_
  refine X.opw X.wN rfl (X.lenSl Tryz.underlying22 rfl) ?_
  refine X.opw X.wN rfl (X.move rfl) ?_
  refine X.opsEnd ?_
  refine X.block ?_
  refine X.loopL (σ := Nat) (fun s => [(0, .slice A n c), (5, .slice A n c), (6, .int .i64 (n : Int)), (7, .int .i64 (s : Int))]) (fun s w' => s ≤ n ∧ (∀ j, j < s → okAt l j = true) ∧ Keep w w') (fun s => n - s) 0 ⟨rfl, rfl, rfl, rfl, trivial⟩ ⟨by omega, fun j h => absurd h (by omega), (Keep.refl _)⟩ ?_
  rintro i b w1 ⟨hi, hI, hk⟩ hback
  have hk0 := hk.size
  refine X.seq ?_
  refine X.region ?_
  refine X.opP X.wN rfl rfl (X.lss rfl rfl) (fun h8 => ?_) (fun h8 => ?_)
  · obtain ⟨x, hx⟩ : ∃ x, L[i]? = some x := ⟨_, List.getElem?_eq_getElem (by omega)⟩
    obtain ⟨q, hq, eq, oq, nq, ht⟩ := hLt _ _ hx
    refine X.opsEnd ?_
    refine X.seq ?_
    refine X.condT rfl ?_
    refine X.skip ?_
    refine X.seq ?_
    refine X.block ?_
    refine X.seq ?_
    refine X.region ?_
    refine X.opw X.wN rfl (X.move (v := .int .i64 _) rfl) ?_
    refine X.opw X.wN rfl (X.idxS (hsL.keep hk) Tryz.underlying22 Tryz.sizeOf40 rfl rfl ⟨by omega, by omega⟩) ?_
    refine X.opw X.wN rfl (X.loadSN Tryz.isAgg40 Tryz.sizeOf40 (hsL.keep hk) hx rfl (fun _ h => h.1) rfl) ?_
    refine X.opE X.wN rfl (X.allocE Tryz.zeroValue40 rfl) ?_
    rintro _ w1 ⟨rfl, hB1, hk1, hz1⟩
    refine X.opw X.wN rfl (X.assign (v := .int .i64 _) rfl) ?_
    refine X.opE X.wN rfl (X.storeNE Tryz.sizeOf40 hB1 rfl rfl rfl rfl (fun u hu => by simp at hu; rcases hu with rfl | rfl <;> rfl)) ?_
    rintro _ w2 ⟨hB2, hx2, hz2⟩
    refine X.opsEnd ?_
    refine X.seq ?_
    refine X.regionD (fun _ => False) 25 (by kernel_rfl) (by kernel_rfl) (fun w3 hk3 hz3 => ?_)
    refine X.dTake 0 rfl (by kernel_rfl) (by kernel_rfl) (by kernel_rfl) (X.dwN rfl) (fun w' hk' => X.fldB (j := 0) Tryz.underlying40 rfl rfl Tryz.sizeOf38 rfl) ?_
    refine X.dTake 1 rfl (by kernel_rfl) (by kernel_rfl) (by kernel_rfl) (X.dwN rfl) (fun w' hk' => X.load1B Tryz.isAgg38 (hB2.keep (hk3.trans hk')) rfl rfl) ?_
    refine X.dE (i := 2) (by kernel_rfl) rfl (X.dwN rfl) (X.callE (tCheck_c _ (ht.keep (((hk.trans hk1).step hx2 zq26).trans hk3))) Tryz.call62 rfl rfl) (by rintro _ w4 ⟨rfl, hk4⟩ _; exact hk4.mono (fun _ _ h => h.elim)) ?_
    rintro _ w4 ⟨rfl, hk4⟩
    have hk4' := hk4.size
    refine X.dTake 3 rfl (by kernel_rfl) (by kernel_rfl) (by kernel_rfl) (X.dwN rfl) (fun w' hk' => X.neI rfl rfl) ?_
    refine X.dTake 4 rfl (by kernel_rfl) (by kernel_rfl) (by kernel_rfl) (X.dwN rfl) (fun w' hk' => X.move (v := .bool _) rfl) ?_
    refine X.dFork 16 rfl (fun h16 => ?_) (fun h16 => ?_)
    · have hT : isT q.1 = false := by
        cases hq0 : isT q.1 with
        | false => rfl
        | true => rw [hq0] at h16; simp at h16
      refine X.dSkip (i := 5) (by kernel_rfl) rfl rfl rfl rfl rfl ?_
      refine X.dSkip (i := 6) (by kernel_rfl) rfl rfl rfl rfl rfl ?_
      refine X.dSkip (i := 7) (by kernel_rfl) rfl rfl rfl rfl rfl ?_
      refine X.dTake 8 rfl (by kernel_rfl) (by kernel_rfl) (by kernel_rfl) (X.dwN rfl) (fun w' hk' => X.pickT (v := .bool true) rfl rfl) ?_
      refine X.dTake 9 rfl (by kernel_rfl) (by kernel_rfl) (by kernel_rfl) (X.dwN rfl) (fun w' hk' => X.move (v := .bool true) rfl) ?_
      refine X.dSkip (i := 10) (by kernel_rfl) rfl rfl rfl rfl rfl ?_
      refine X.dSkip (i := 11) (by kernel_rfl) rfl rfl rfl rfl rfl ?_
      refine X.dSkip (i := 12) (by kernel_rfl) rfl rfl rfl rfl rfl ?_
      refine X.dTakeU 13 rfl (by kernel_rfl) (by kernel_rfl) (by kernel_rfl) rfl rfl rfl ?_
      refine X.dTakeU 14 rfl (by kernel_rfl) (by kernel_rfl) (by kernel_rfl) rfl rfl rfl ?_
      refine X.dTakeU 15 rfl (by kernel_rfl) (by kernel_rfl) (by kernel_rfl) rfl rfl rfl ?_
      refine X.dTakeU 16 rfl (by kernel_rfl) (by kernel_rfl) (by kernel_rfl) rfl rfl rfl ?_
      refine X.dTakeU 17 rfl (by kernel_rfl) (by kernel_rfl) (by kernel_rfl) rfl rfl rfl ?_
      refine X.dTakeU 18 rfl (by kernel_rfl) (by kernel_rfl) (by kernel_rfl) rfl rfl rfl ?_
      refine X.dSkU (i := 19) (by kernel_rfl) rfl rfl rfl rfl ?_
      refine X.dSkU (i := 20) (by kernel_rfl) rfl rfl rfl rfl ?_
      refine X.dSkU (i := 21) (by kernel_rfl) rfl rfl rfl rfl ?_
      refine X.dSkU (i := 22) (by kernel_rfl) rfl rfl rfl rfl ?_
      refine X.dSkip (i := 23) (by kernel_rfl) rfl rfl rfl rfl rfl ?_
      refine X.dTake 24 rfl (by kernel_rfl) (by kernel_rfl) (by kernel_rfl) (X.dwN rfl) (fun w' hk' => X.pickT (v := .bool true) rfl rfl) ?_
      refine X.dEnd (by kernel_rfl) ?_
      refine X.condT rfl ?_
      refine X.seq ?_
      refine X.region ?_
      refine X.opw X.wN rfl (X.assign rfl) ?_
      refine X.opsEnd ?_
      refine X.ret1 (v := (.int .i64 _)) Tryz.func21 Tryz.results21 rfl ?_
      exact ⟨by rw [isR_F hq (okAt_1 hq hT)] <;> rfl, ((((hk.trans hk1).step hx2 zq26).trans hk3).trans hk4)⟩
    · have hT : isT q.1 = true := by
        cases hq0 : isT q.1 with
        | true => rfl
        | false => rw [hq0] at h16; simp at h16
      refine X.dTake 5 rfl (by kernel_rfl) (by kernel_rfl) (by kernel_rfl) (X.dwG rfl rfl rfl) (fun w' hk' => X.fldB (j := 1) Tryz.underlying40 rfl rfl Tryz.sizeOf2 rfl) ?_
      refine X.dTake 6 rfl (by kernel_rfl) (by kernel_rfl) (by kernel_rfl) (X.dwG rfl rfl rfl) (fun w' hk' => X.load1B Tryz.isAgg2 (hB2.keep ((hk3.trans hk4).trans hk')) rfl rfl) ?_
      refine X.dTake 7 rfl (by kernel_rfl) (by kernel_rfl) (by kernel_rfl) (X.dwG rfl rfl rfl) (fun w' hk' => X.eqI rfl rfl) ?_
      refine X.dTake 8 rfl (by kernel_rfl) (by kernel_rfl) (by kernel_rfl) (X.dwN rfl) (fun w' hk' => X.pickF (v := .bool _) rfl rfl) ?_
      refine X.dTake 9 rfl (by kernel_rfl) (by kernel_rfl) (by kernel_rfl) (X.dwN rfl) (fun w' hk' => X.move (v := .bool _) rfl) ?_
      refine X.dFork 21 rfl (fun h21 => ?_) (fun h21 => ?_)
      · have hN : q.2 = 0 := by rw [← eq]; exact of_decide_eq_true h21
        refine X.dSkip (i := 10) (by kernel_rfl) rfl rfl rfl rfl rfl ?_
        refine X.dSkip (i := 11) (by kernel_rfl) rfl rfl rfl rfl rfl ?_
        refine X.dSkip (i := 12) (by kernel_rfl) rfl rfl rfl rfl rfl ?_
        refine X.dTakeU 13 rfl (by kernel_rfl) (by kernel_rfl) (by kernel_rfl) rfl rfl rfl ?_
        refine X.dTakeU 14 rfl (by kernel_rfl) (by kernel_rfl) (by kernel_rfl) rfl rfl rfl ?_
        refine X.dTakeU 15 rfl (by kernel_rfl) (by kernel_rfl) (by kernel_rfl) rfl rfl rfl ?_
        refine X.dTakeU 16 rfl (by kernel_rfl) (by kernel_rfl) (by kernel_rfl) rfl rfl rfl ?_
        refine X.dTakeU 17 rfl (by kernel_rfl) (by kernel_rfl) (by kernel_rfl) rfl rfl rfl ?_
        refine X.dTakeU 18 rfl (by kernel_rfl) (by kernel_rfl) (by kernel_rfl) rfl rfl rfl ?_
        refine X.dSkU (i := 19) (by kernel_rfl) rfl rfl rfl rfl ?_
        refine X.dSkU (i := 20) (by kernel_rfl) rfl rfl rfl rfl ?_
        refine X.dSkU (i := 21) (by kernel_rfl) rfl rfl rfl rfl ?_
        refine X.dSkU (i := 22) (by kernel_rfl) rfl rfl rfl rfl ?_
        refine X.dSkip (i := 23) (by kernel_rfl) rfl rfl rfl rfl rfl ?_
        refine X.dTake 24 rfl (by kernel_rfl) (by kernel_rfl) (by kernel_rfl) (X.dwN rfl) (fun w' hk' => X.pickT (v := .bool true) rfl rfl) ?_
        refine X.dEnd (by kernel_rfl) ?_
        refine X.condT rfl ?_
        refine X.seq ?_
        refine X.region ?_
        refine X.opw X.wN rfl (X.assign rfl) ?_
        refine X.opsEnd ?_
        refine X.ret1 (v := (.int .i64 _)) Tryz.func21 Tryz.results21 rfl ?_
        exact ⟨by rw [isR_F hq (okAt_2 hq hN)] <;> rfl, ((((hk.trans hk1).step hx2 zq26).trans hk3).trans hk4)⟩
      · have hN : ¬ q.2 = 0 := by rw [← eq]; exact of_decide_eq_false h21
        refine X.dTake 10 rfl (by kernel_rfl) (by kernel_rfl) (by kernel_rfl) (X.dwG rfl rfl rfl) (fun w' hk' => X.move (v := .int .i64 _) rfl) ?_
        refine X.dTake 11 rfl (by kernel_rfl) (by kernel_rfl) (by kernel_rfl) (X.dwG rfl rfl rfl) (fun w' hk' => X.gtr rfl rfl) ?_
        refine X.dTake 12 rfl (by kernel_rfl) (by kernel_rfl) (by kernel_rfl) (X.dwG rfl rfl rfl) (fun w' hk' => X.move (v := .bool _) rfl) ?_
        refine X.dFork 24 rfl (fun h24 => ?_) (fun h24 => ?_)
        · have h24' : (0 : Int) < (i : Int) := of_decide_eq_true h24
          obtain ⟨y, hy0⟩ : ∃ y, L[(i - 1)]? = some y := ⟨_, List.getElem?_eq_getElem (by omega)⟩
          obtain ⟨p, hp, ep, op, np, ht2⟩ := hLt _ _ hy0
          have hy : L[((i : Int) - 1).toNat]? = some y := by rw [show ((i : Int) - 1).toNat = i - 1 by omega]; exact hy0
          refine X.dTake 13 rfl (by kernel_rfl) (by kernel_rfl) (by kernel_rfl) (X.dwG rfl rfl rfl) (fun w' hk' => X.move (v := .slice _ _ _) rfl) ?_
          refine X.dTake 14 rfl (by kernel_rfl) (by kernel_rfl) (by kernel_rfl) (X.dwG rfl rfl rfl) (fun w' hk' => X.move (v := .int .i64 _) rfl) ?_
          refine X.dTake 15 rfl (by kernel_rfl) (by kernel_rfl) (by kernel_rfl) (X.dwG rfl rfl rfl) (fun w' hk' => X.sub rfl rfl (X.w_i64 (by omega))) ?_
          refine X.dTake 16 rfl (by kernel_rfl) (by kernel_rfl) (by kernel_rfl) (X.dwG rfl rfl rfl) (fun w' hk' => X.idxS (hsL.keep (((((hk.trans hk1).step hx2 zq26).trans hk3).trans hk4).trans hk')) Tryz.underlying22 Tryz.sizeOf40 rfl rfl ⟨by omega, by omega⟩) ?_
          refine X.dTake 17 rfl (by kernel_rfl) (by kernel_rfl) (by kernel_rfl) (X.dwG rfl rfl rfl) (fun w' hk' => X.fldA Tryz.underlying40 rfl rfl Tryz.sizeOf38) ?_
          refine X.dTake 18 rfl (by kernel_rfl) (by kernel_rfl) (by kernel_rfl) (X.dwG rfl rfl rfl) (fun w' hk' => X.loadSf (o := 0) Tryz.isAgg38 (hsL.keep (((((hk.trans hk1).step hx2 zq26).trans hk3).trans hk4).trans hk')) hy rfl (fun _ h => by rw [h.1]; rfl)) ?_
          refine X.dTake 19 rfl (by kernel_rfl) (by kernel_rfl) (by kernel_rfl) (X.dwG rfl rfl rfl) (fun w' hk' => X.fldB (j := 0) Tryz.underlying40 rfl rfl Tryz.sizeOf38 rfl) ?_
          refine X.dTake 20 rfl (by kernel_rfl) (by kernel_rfl) (by kernel_rfl) (X.dwG rfl rfl rfl) (fun w' hk' => X.load1B Tryz.isAgg38 (hB2.keep ((hk3.trans hk4).trans hk')) rfl rfl) ?_
          refine X.dE (i := 21) (by kernel_rfl) rfl (X.dwG rfl rfl rfl) (X.callE (tupleCompare_c _ (ht2.keep ((((hk.trans hk1).step hx2 zq26).trans hk3).trans hk4)) (ht.keep ((((hk.trans hk1).step hx2 zq26).trans hk3).trans hk4))) Tryz.call47 rfl rfl) (by rintro _ w5 ⟨rfl, hk5⟩ _; exact hk5.mono (fun _ _ h => h.elim)) ?_
          rintro _ w5 ⟨rfl, hk5⟩
          have hk5' := hk5.size
          refine X.dTake 22 rfl (by kernel_rfl) (by kernel_rfl) (by kernel_rfl) (X.dwG rfl rfl rfl) (fun w' hk' => X.geq rfl rfl) ?_
          refine X.dTake 23 rfl (by kernel_rfl) (by kernel_rfl) (by kernel_rfl) (X.dwG rfl rfl rfl) (fun w' hk' => X.pickT (v := .bool _) rfl rfl) ?_
          refine X.dTake 24 rfl (by kernel_rfl) (by kernel_rfl) (by kernel_rfl) (X.dwN rfl) (fun w' hk' => X.pickF (v := .bool _) rfl rfl) ?_
          refine X.dEnd (by kernel_rfl) ?_
          refine X.condB rfl (fun hc36 => ?_) (fun hc36 => ?_)
          · have hc := of_decide_eq_true hc36
            refine X.seq ?_
            refine X.region ?_
            refine X.opw X.wN rfl (X.assign rfl) ?_
            refine X.opsEnd ?_
            refine X.ret1 (v := (.int .i64 _)) Tryz.func21 Tryz.results21 rfl ?_
            exact ⟨by rw [isR_F hq (okAt_3 hq (by omega) hp (by omega))] <;> rfl, (((((hk.trans hk1).step hx2 zq26).trans hk3).trans hk4).trans hk5)⟩
          · have hc := of_decide_eq_false hc36
            refine X.skip ?_
            refine X.inBlock ?_
            refine X.region ?_
            refine X.opw X.wN rfl (X.add rfl rfl (X.w_i64 (by omega))) ?_
            refine X.opw X.wN rfl (X.move (v := .int .i64 _) rfl) ?_
            refine X.opsEnd ?_
            refine hback (i + 1) _ _ ⟨rfl, rfl, rfl, rfl, trivial⟩ ⟨by omega, ok_step (okAt_T hq hT hN hp (by omega)) hI, (((((hk.trans hk1).step hx2 zq26).trans hk3).trans hk4).trans hk5)⟩ (by omega)
        · have h24' : ¬ (0 : Int) < (i : Int) := of_decide_eq_false h24
          refine X.dTakeS 13 rfl (by kernel_rfl) (by kernel_rfl) (by kernel_rfl) rfl rfl rfl rfl ?_
          refine X.dTakeS 14 rfl (by kernel_rfl) (by kernel_rfl) (by kernel_rfl) rfl rfl rfl rfl ?_
          refine X.dTakeS 15 rfl (by kernel_rfl) (by kernel_rfl) (by kernel_rfl) rfl rfl rfl rfl ?_
          refine X.dTakeS 16 rfl (by kernel_rfl) (by kernel_rfl) (by kernel_rfl) rfl rfl rfl rfl ?_
          refine X.dTakeS 17 rfl (by kernel_rfl) (by kernel_rfl) (by kernel_rfl) rfl rfl rfl rfl ?_
          refine X.dTakeS 18 rfl (by kernel_rfl) (by kernel_rfl) (by kernel_rfl) rfl rfl rfl rfl ?_
          refine X.dSkip (i := 19) (by kernel_rfl) rfl rfl rfl rfl rfl ?_
          refine X.dSkip (i := 20) (by kernel_rfl) rfl rfl rfl rfl rfl ?_
          refine X.dSkip (i := 21) (by kernel_rfl) rfl rfl rfl rfl rfl ?_
          refine X.dSkip (i := 22) (by kernel_rfl) rfl rfl rfl rfl rfl ?_
          refine X.dTake 23 rfl (by kernel_rfl) (by kernel_rfl) (by kernel_rfl) (X.dwG rfl rfl rfl) (fun w' hk' => X.pickF (v := .bool false) rfl rfl) ?_
          refine X.dTake 24 rfl (by kernel_rfl) (by kernel_rfl) (by kernel_rfl) (X.dwN rfl) (fun w' hk' => X.pickF (v := .bool false) rfl rfl) ?_
          refine X.dEnd (by kernel_rfl) ?_
          refine X.condF rfl ?_
          refine X.skip ?_
          refine X.inBlock ?_
          refine X.region ?_
          refine X.opw X.wN rfl (X.add rfl rfl (X.w_i64 (by omega))) ?_
          refine X.opw X.wN rfl (X.move (v := .int .i64 _) rfl) ?_
          refine X.opsEnd ?_
          refine hback (i + 1) _ _ ⟨rfl, rfl, rfl, rfl, trivial⟩ ⟨by omega, ok_step (okAt_T0 hq hT hN (by omega)) hI, ((((hk.trans hk1).step hx2 zq26).trans hk3).trans hk4)⟩ (by omega)
  · refine X.opsEnd ?_
    refine X.seq ?_
    refine X.condF rfl ?_
    refine X.exit rfl ?_
    refine X.seq ?_
    refine X.region ?_
    refine X.opw X.wN rfl (X.assign rfl) ?_
    refine X.opsEnd ?_
    refine X.ret1 (v := (.int .i64 _)) Tryz.func21 Tryz.results21 rfl ?_
    exact ⟨by rw [isR_T (fun j hj => hI j (by omega))] <;> rfl, hk⟩
set_option maxHeartbeats 4000000 in
set_option maxRecDepth 100000 in
theorem RIs_c {lo hi : Nat} {A : Option Addr} {n c : Nat} {l : List CD} (w : World) (hs : Sl KC lo hi w A n l) (hhi : hi ≤ w.heap.size) : Ret Tryz.prog 10 #[.slice A n c] w fun r w' => r = .bool (isR l) ∧ Keep w w' := by
  obtain ⟨L, hsL, hLl, hLt⟩ := kc_hd hs
  have hsl := hs.len
  have hsb := hs.bound
  refine X.enter Tryz.func10 rfl Tryz.ntmps10 rfl ?_
  refine X.seq ?_
  refine X.region ?_
  refine X.opw X.wN rfl (X.assign rfl) ?_
  refine X.opsEnd ?_
  refine X.seq ?_
  refine X.seq ?_
  refine X.region ?_
  refine X.opw X.wN rfl (X.assign rfl) ?_
  refine X.opsEnd ?_
  refine X.block ?_
  refine X.loopL (σ := Nat) (fun s => [(0, .slice A n c), (3, .int .i64 (s : Int))]) (fun s w' => s ≤ n ∧ (∀ j, j < s → okAt l j = true) ∧ Keep w w') (fun s => n - s) 0 ⟨rfl, rfl, trivial⟩ ⟨by omega, fun j h => absurd h (by omega), (Keep.refl _)⟩ ?_
  rintro i b w1 ⟨hi, hI, hk⟩ hback
  have hk0 := hk.size
  refine X.seq ?_
  refine X.seq ?_
  refine X.region ?_
  refine X.opw X.wN rfl (X.move (v := .int .i64 _) rfl) ?_
  refine X.opw X.wN rfl (X.move (v := .slice _ _ _) rfl) ?_
  refine X.opw X.wN rfl (X.lenSl Tryz.underlying22 rfl) ?_
  refine X.opP X.wN rfl rfl (X.lss rfl rfl) (fun h7 => ?_) (fun h7 => ?_)
  · obtain ⟨x, hx⟩ : ∃ x, L[i]? = some x := ⟨_, List.getElem?_eq_getElem (by omega)⟩
    obtain ⟨q, hq, eq, oq, nq, ht⟩ := hLt _ _ hx
    refine X.opsEnd ?_
    refine X.condT rfl ?_
    refine X.skip ?_
    refine X.seq ?_
    refine X.block ?_
    refine X.seq ?_
    refine X.regionD (fun _ => False) 34 (by kernel_rfl) (by kernel_rfl) (fun w1 hk1 hz1 => ?_)
    refine X.dTake 0 rfl (by kernel_rfl) (by kernel_rfl) (by kernel_rfl) (X.dwN rfl) (fun w' hk' => X.move (v := .slice _ _ _) rfl) ?_
    refine X.dTake 1 rfl (by kernel_rfl) (by kernel_rfl) (by kernel_rfl) (X.dwN rfl) (fun w' hk' => X.move (v := .int .i64 _) rfl) ?_
    refine X.dTake 2 rfl (by kernel_rfl) (by kernel_rfl) (by kernel_rfl) (X.dwN rfl) (fun w' hk' => X.idxS (hsL.keep ((hk.trans hk1).trans hk')) Tryz.underlying22 Tryz.sizeOf40 rfl rfl ⟨by omega, by omega⟩) ?_
    refine X.dTake 3 rfl (by kernel_rfl) (by kernel_rfl) (by kernel_rfl) (X.dwN rfl) (fun w' hk' => X.fldA Tryz.underlying40 rfl rfl Tryz.sizeOf38) ?_
    refine X.dTake 4 rfl (by kernel_rfl) (by kernel_rfl) (by kernel_rfl) (X.dwN rfl) (fun w' hk' => X.loadSf (o := 0) Tryz.isAgg38 (hsL.keep ((hk.trans hk1).trans hk')) hx rfl (fun _ h => by rw [h.1]; rfl)) ?_
    refine X.dE (i := 5) (by kernel_rfl) rfl (X.dwN rfl) (X.callE (R02Check_c _ (ht.keep (hk.trans hk1))) Tryz.call35 rfl rfl) (by rintro _ w2 ⟨rfl, hk2⟩ _; exact hk2.mono (fun _ _ h => h.elim)) ?_
    rintro _ w2 ⟨rfl, hk2⟩
    have hk2' := hk2.size
    refine X.dTake 6 rfl (by kernel_rfl) (by kernel_rfl) (by kernel_rfl) (X.dwN rfl) (fun w' hk' => X.neI rfl rfl) ?_
    refine X.dTake 7 rfl (by kernel_rfl) (by kernel_rfl) (by kernel_rfl) (X.dwN rfl) (fun w' hk' => X.move (v := .bool _) rfl) ?_
    refine X.dFork 17 rfl (fun h17 => ?_) (fun h17 => ?_)
    · have hT : isT q.1 = false := by
        cases hq0 : isT q.1 with
        | false => rfl
        | true => rw [hq0] at h17; simp at h17
      refine X.dTakeS 8 rfl (by kernel_rfl) (by kernel_rfl) (by kernel_rfl) rfl rfl rfl rfl ?_
      refine X.dSkip (i := 9) (by kernel_rfl) rfl rfl rfl rfl rfl ?_
      refine X.dSkip (i := 10) (by kernel_rfl) rfl rfl rfl rfl rfl ?_
      refine X.dSkip (i := 11) (by kernel_rfl) rfl rfl rfl rfl rfl ?_
      refine X.dSkip (i := 12) (by kernel_rfl) rfl rfl rfl rfl rfl ?_
      refine X.dSkip (i := 13) (by kernel_rfl) rfl rfl rfl rfl rfl ?_
      refine X.dTake 14 rfl (by kernel_rfl) (by kernel_rfl) (by kernel_rfl) (X.dwN rfl) (fun w' hk' => X.pickT (v := .bool true) rfl rfl) ?_
      refine X.dTake 15 rfl (by kernel_rfl) (by kernel_rfl) (by kernel_rfl) (X.dwN rfl) (fun w' hk' => X.move (v := .bool true) rfl) ?_
      refine X.dSkip (i := 16) (by kernel_rfl) rfl rfl rfl rfl rfl ?_
      refine X.dSkip (i := 17) (by kernel_rfl) rfl rfl rfl rfl rfl ?_
      refine X.dSkip (i := 18) (by kernel_rfl) rfl rfl rfl rfl rfl ?_
      refine X.dTakeU 19 rfl (by kernel_rfl) (by kernel_rfl) (by kernel_rfl) rfl rfl rfl ?_
      refine X.dTakeU 20 rfl (by kernel_rfl) (by kernel_rfl) (by kernel_rfl) rfl rfl rfl ?_
      refine X.dTakeU 21 rfl (by kernel_rfl) (by kernel_rfl) (by kernel_rfl) rfl rfl rfl ?_
      refine X.dTakeU 22 rfl (by kernel_rfl) (by kernel_rfl) (by kernel_rfl) rfl rfl rfl ?_
      refine X.dTakeU 23 rfl (by kernel_rfl) (by kernel_rfl) (by kernel_rfl) rfl rfl rfl ?_
      refine X.dTakeU 24 rfl (by kernel_rfl) (by kernel_rfl) (by kernel_rfl) rfl rfl rfl ?_
      refine X.dTakeU 25 rfl (by kernel_rfl) (by kernel_rfl) (by kernel_rfl) rfl rfl rfl ?_
      refine X.dSkU (i := 26) (by kernel_rfl) rfl rfl rfl rfl ?_
      refine X.dSkU (i := 27) (by kernel_rfl) rfl rfl rfl rfl ?_
      refine X.dSkU (i := 28) (by kernel_rfl) rfl rfl rfl rfl ?_
      refine X.dSkU (i := 29) (by kernel_rfl) rfl rfl rfl rfl ?_
      refine X.dSkU (i := 30) (by kernel_rfl) rfl rfl rfl rfl ?_
      refine X.dSkU (i := 31) (by kernel_rfl) rfl rfl rfl rfl ?_
      refine X.dSkip (i := 32) (by kernel_rfl) rfl rfl rfl rfl rfl ?_
      refine X.dTake 33 rfl (by kernel_rfl) (by kernel_rfl) (by kernel_rfl) (X.dwN rfl) (fun w' hk' => X.pickT (v := .bool true) rfl rfl) ?_
      refine X.dEnd (by kernel_rfl) ?_
      refine X.condT rfl ?_
      refine X.seq ?_
      refine X.region ?_
      refine X.opw X.wN rfl (X.assign rfl) ?_
      refine X.opsEnd ?_
      refine X.ret1 (v := (.bool _)) Tryz.func10 Tryz.results10 rfl ?_
      exact ⟨by rw [isR_F hq (okAt_1 hq hT)] <;> rfl, ((hk.trans hk1).trans hk2)⟩
    · have hT : isT q.1 = true := by
        cases hq0 : isT q.1 with
        | true => rfl
        | false => rw [hq0] at h17; simp at h17
      refine X.dTake 8 rfl (by kernel_rfl) (by kernel_rfl) (by kernel_rfl) (X.dwG rfl rfl rfl) (fun w' hk' => X.move (v := .slice _ _ _) rfl) ?_
      refine X.dTake 9 rfl (by kernel_rfl) (by kernel_rfl) (by kernel_rfl) (X.dwG rfl rfl rfl) (fun w' hk' => X.move (v := .int .i64 _) rfl) ?_
      refine X.dTake 10 rfl (by kernel_rfl) (by kernel_rfl) (by kernel_rfl) (X.dwG rfl rfl rfl) (fun w' hk' => X.idxS (hsL.keep (((hk.trans hk1).trans hk2).trans hk')) Tryz.underlying22 Tryz.sizeOf40 rfl rfl ⟨by omega, by omega⟩) ?_
      refine X.dTake 11 rfl (by kernel_rfl) (by kernel_rfl) (by kernel_rfl) (X.dwG rfl rfl rfl) (fun w' hk' => X.fldA Tryz.underlying40 rfl rfl Tryz.sizeOf2) ?_
      refine X.dTake 12 rfl (by kernel_rfl) (by kernel_rfl) (by kernel_rfl) (X.dwG rfl rfl rfl) (fun w' hk' => X.loadSf (o := 1) Tryz.isAgg2 (hsL.keep (((hk.trans hk1).trans hk2).trans hk')) hx rfl (fun _ h => by rw [h.1]; rfl)) ?_
      refine X.dTake 13 rfl (by kernel_rfl) (by kernel_rfl) (by kernel_rfl) (X.dwG rfl rfl rfl) (fun w' hk' => X.eqI rfl rfl) ?_
      refine X.dTake 14 rfl (by kernel_rfl) (by kernel_rfl) (by kernel_rfl) (X.dwN rfl) (fun w' hk' => X.pickF (v := .bool _) rfl rfl) ?_
      refine X.dTake 15 rfl (by kernel_rfl) (by kernel_rfl) (by kernel_rfl) (X.dwN rfl) (fun w' hk' => X.move (v := .bool _) rfl) ?_
      refine X.dFork 25 rfl (fun h25 => ?_) (fun h25 => ?_)
      · have hN : q.2 = 0 := by rw [← eq]; exact of_decide_eq_true h25
        refine X.dSkip (i := 16) (by kernel_rfl) rfl rfl rfl rfl rfl ?_
        refine X.dSkip (i := 17) (by kernel_rfl) rfl rfl rfl rfl rfl ?_
        refine X.dSkip (i := 18) (by kernel_rfl) rfl rfl rfl rfl rfl ?_
        refine X.dTakeU 19 rfl (by kernel_rfl) (by kernel_rfl) (by kernel_rfl) rfl rfl rfl ?_
        refine X.dTakeU 20 rfl (by kernel_rfl) (by kernel_rfl) (by kernel_rfl) rfl rfl rfl ?_
        refine X.dTakeU 21 rfl (by kernel_rfl) (by kernel_rfl) (by kernel_rfl) rfl rfl rfl ?_
        refine X.dTakeU 22 rfl (by kernel_rfl) (by kernel_rfl) (by kernel_rfl) rfl rfl rfl ?_
        refine X.dTakeU 23 rfl (by kernel_rfl) (by kernel_rfl) (by kernel_rfl) rfl rfl rfl ?_
        refine X.dTakeU 24 rfl (by kernel_rfl) (by kernel_rfl) (by kernel_rfl) rfl rfl rfl ?_
        refine X.dTakeU 25 rfl (by kernel_rfl) (by kernel_rfl) (by kernel_rfl) rfl rfl rfl ?_
        refine X.dSkU (i := 26) (by kernel_rfl) rfl rfl rfl rfl ?_
        refine X.dSkU (i := 27) (by kernel_rfl) rfl rfl rfl rfl ?_
        refine X.dSkU (i := 28) (by kernel_rfl) rfl rfl rfl rfl ?_
        refine X.dSkU (i := 29) (by kernel_rfl) rfl rfl rfl rfl ?_
        refine X.dSkU (i := 30) (by kernel_rfl) rfl rfl rfl rfl ?_
        refine X.dSkU (i := 31) (by kernel_rfl) rfl rfl rfl rfl ?_
        refine X.dSkip (i := 32) (by kernel_rfl) rfl rfl rfl rfl rfl ?_
        refine X.dTake 33 rfl (by kernel_rfl) (by kernel_rfl) (by kernel_rfl) (X.dwN rfl) (fun w' hk' => X.pickT (v := .bool true) rfl rfl) ?_
        refine X.dEnd (by kernel_rfl) ?_
        refine X.condT rfl ?_
        refine X.seq ?_
        refine X.region ?_
        refine X.opw X.wN rfl (X.assign rfl) ?_
        refine X.opsEnd ?_
        refine X.ret1 (v := (.bool _)) Tryz.func10 Tryz.results10 rfl ?_
        exact ⟨by rw [isR_F hq (okAt_2 hq hN)] <;> rfl, ((hk.trans hk1).trans hk2)⟩
      · have hN : ¬ q.2 = 0 := by rw [← eq]; exact of_decide_eq_false h25
        refine X.dTake 16 rfl (by kernel_rfl) (by kernel_rfl) (by kernel_rfl) (X.dwG rfl rfl rfl) (fun w' hk' => X.move (v := .int .i64 _) rfl) ?_
        refine X.dTake 17 rfl (by kernel_rfl) (by kernel_rfl) (by kernel_rfl) (X.dwG rfl rfl rfl) (fun w' hk' => X.gtr rfl rfl) ?_
        refine X.dTake 18 rfl (by kernel_rfl) (by kernel_rfl) (by kernel_rfl) (X.dwG rfl rfl rfl) (fun w' hk' => X.move (v := .bool _) rfl) ?_
        refine X.dFork 28 rfl (fun h28 => ?_) (fun h28 => ?_)
        · have h28' : (0 : Int) < (i : Int) := of_decide_eq_true h28
          obtain ⟨y, hy0⟩ : ∃ y, L[(i - 1)]? = some y := ⟨_, List.getElem?_eq_getElem (by omega)⟩
          obtain ⟨p, hp, ep, op, np, ht2⟩ := hLt _ _ hy0
          have hy : L[((i : Int) - 1).toNat]? = some y := by rw [show ((i : Int) - 1).toNat = i - 1 by omega]; exact hy0
          refine X.dTake 19 rfl (by kernel_rfl) (by kernel_rfl) (by kernel_rfl) (X.dwG rfl rfl rfl) (fun w' hk' => X.move (v := .slice _ _ _) rfl) ?_
          refine X.dTake 20 rfl (by kernel_rfl) (by kernel_rfl) (by kernel_rfl) (X.dwG rfl rfl rfl) (fun w' hk' => X.move (v := .int .i64 _) rfl) ?_
          refine X.dTake 21 rfl (by kernel_rfl) (by kernel_rfl) (by kernel_rfl) (X.dwG rfl rfl rfl) (fun w' hk' => X.sub rfl rfl (X.w_i64 (by omega))) ?_
          refine X.dTake 22 rfl (by kernel_rfl) (by kernel_rfl) (by kernel_rfl) (X.dwG rfl rfl rfl) (fun w' hk' => X.idxS (hsL.keep (((hk.trans hk1).trans hk2).trans hk')) Tryz.underlying22 Tryz.sizeOf40 rfl rfl ⟨by omega, by omega⟩) ?_
          refine X.dTake 23 rfl (by kernel_rfl) (by kernel_rfl) (by kernel_rfl) (X.dwG rfl rfl rfl) (fun w' hk' => X.fldA Tryz.underlying40 rfl rfl Tryz.sizeOf38) ?_
          refine X.dTake 24 rfl (by kernel_rfl) (by kernel_rfl) (by kernel_rfl) (X.dwG rfl rfl rfl) (fun w' hk' => X.loadSf (o := 0) Tryz.isAgg38 (hsL.keep (((hk.trans hk1).trans hk2).trans hk')) hy rfl (fun _ h => by rw [h.1]; rfl)) ?_
          refine X.dTake 25 rfl (by kernel_rfl) (by kernel_rfl) (by kernel_rfl) (X.dwG rfl rfl rfl) (fun w' hk' => X.move (v := .slice _ _ _) rfl) ?_
          refine X.dTake 26 rfl (by kernel_rfl) (by kernel_rfl) (by kernel_rfl) (X.dwG rfl rfl rfl) (fun w' hk' => X.move (v := .int .i64 _) rfl) ?_
          refine X.dTake 27 rfl (by kernel_rfl) (by kernel_rfl) (by kernel_rfl) (X.dwG rfl rfl rfl) (fun w' hk' => X.idxS (hsL.keep (((hk.trans hk1).trans hk2).trans hk')) Tryz.underlying22 Tryz.sizeOf40 rfl rfl ⟨by omega, by omega⟩) ?_
          refine X.dTake 28 rfl (by kernel_rfl) (by kernel_rfl) (by kernel_rfl) (X.dwG rfl rfl rfl) (fun w' hk' => X.fldA Tryz.underlying40 rfl rfl Tryz.sizeOf38) ?_
          refine X.dTake 29 rfl (by kernel_rfl) (by kernel_rfl) (by kernel_rfl) (X.dwG rfl rfl rfl) (fun w' hk' => X.loadSf (o := 0) Tryz.isAgg38 (hsL.keep (((hk.trans hk1).trans hk2).trans hk')) hx rfl (fun _ h => by rw [h.1]; rfl)) ?_
          refine X.dE (i := 30) (by kernel_rfl) rfl (X.dwG rfl rfl rfl) (X.callE (R02Compare_c _ (ht2.keep ((hk.trans hk1).trans hk2)) (ht.keep ((hk.trans hk1).trans hk2))) Tryz.call17 rfl rfl) (by rintro _ w3 ⟨rfl, hk3⟩ _; exact hk3.mono (fun _ _ h => h.elim)) ?_
          rintro _ w3 ⟨rfl, hk3⟩
          have hk3' := hk3.size
          refine X.dTake 31 rfl (by kernel_rfl) (by kernel_rfl) (by kernel_rfl) (X.dwG rfl rfl rfl) (fun w' hk' => X.geq rfl rfl) ?_
          refine X.dTake 32 rfl (by kernel_rfl) (by kernel_rfl) (by kernel_rfl) (X.dwG rfl rfl rfl) (fun w' hk' => X.pickT (v := .bool _) rfl rfl) ?_
          refine X.dTake 33 rfl (by kernel_rfl) (by kernel_rfl) (by kernel_rfl) (X.dwN rfl) (fun w' hk' => X.pickF (v := .bool _) rfl rfl) ?_
          refine X.dEnd (by kernel_rfl) ?_
          refine X.condB rfl (fun hc43 => ?_) (fun hc43 => ?_)
          · have hc := of_decide_eq_true hc43
            refine X.seq ?_
            refine X.region ?_
            refine X.opw X.wN rfl (X.assign rfl) ?_
            refine X.opsEnd ?_
            refine X.ret1 (v := (.bool _)) Tryz.func10 Tryz.results10 rfl ?_
            exact ⟨by rw [isR_F hq (okAt_3 hq (by omega) hp (by omega))] <;> rfl, (((hk.trans hk1).trans hk2).trans hk3)⟩
          · have hc := of_decide_eq_false hc43
            refine X.skip ?_
            refine X.inBlock ?_
            refine X.region ?_
            refine X.opw X.wN rfl (X.move (v := .int .i64 _) rfl) ?_
            refine X.opw X.wN rfl (X.add rfl rfl (X.w_i64 (by omega))) ?_
            refine X.opw X.wN rfl (X.assign (v := .int .i64 _) rfl) ?_
            refine X.opsEnd ?_
            refine hback (i + 1) _ _ ⟨rfl, rfl, trivial⟩ ⟨by omega, ok_step (okAt_T hq hT hN hp (by omega)) hI, (((hk.trans hk1).trans hk2).trans hk3)⟩ (by omega)
        · have h28' : ¬ (0 : Int) < (i : Int) := of_decide_eq_false h28
          refine X.dTakeS 19 rfl (by kernel_rfl) (by kernel_rfl) (by kernel_rfl) rfl rfl rfl rfl ?_
          refine X.dTakeS 20 rfl (by kernel_rfl) (by kernel_rfl) (by kernel_rfl) rfl rfl rfl rfl ?_
          refine X.dTakeS 21 rfl (by kernel_rfl) (by kernel_rfl) (by kernel_rfl) rfl rfl rfl rfl ?_
          refine X.dTakeS 22 rfl (by kernel_rfl) (by kernel_rfl) (by kernel_rfl) rfl rfl rfl rfl ?_
          refine X.dTakeS 23 rfl (by kernel_rfl) (by kernel_rfl) (by kernel_rfl) rfl rfl rfl rfl ?_
          refine X.dTakeS 24 rfl (by kernel_rfl) (by kernel_rfl) (by kernel_rfl) rfl rfl rfl rfl ?_
          refine X.dTakeS 25 rfl (by kernel_rfl) (by kernel_rfl) (by kernel_rfl) rfl rfl rfl rfl ?_
          refine X.dSkip (i := 26) (by kernel_rfl) rfl rfl rfl rfl rfl ?_
          refine X.dSkip (i := 27) (by kernel_rfl) rfl rfl rfl rfl rfl ?_
          refine X.dSkip (i := 28) (by kernel_rfl) rfl rfl rfl rfl rfl ?_
          refine X.dSkip (i := 29) (by kernel_rfl) rfl rfl rfl rfl rfl ?_
          refine X.dSkip (i := 30) (by kernel_rfl) rfl rfl rfl rfl rfl ?_
          refine X.dSkip (i := 31) (by kernel_rfl) rfl rfl rfl rfl rfl ?_
          refine X.dTake 32 rfl (by kernel_rfl) (by kernel_rfl) (by kernel_rfl) (X.dwG rfl rfl rfl) (fun w' hk' => X.pickF (v := .bool false) rfl rfl) ?_
          refine X.dTake 33 rfl (by kernel_rfl) (by kernel_rfl) (by kernel_rfl) (X.dwN rfl) (fun w' hk' => X.pickF (v := .bool false) rfl rfl) ?_
          refine X.dEnd (by kernel_rfl) ?_
          refine X.condF rfl ?_
          refine X.skip ?_
          refine X.inBlock ?_
          refine X.region ?_
          refine X.opw X.wN rfl (X.move (v := .int .i64 _) rfl) ?_
          refine X.opw X.wN rfl (X.add rfl rfl (X.w_i64 (by omega))) ?_
          refine X.opw X.wN rfl (X.assign (v := .int .i64 _) rfl) ?_
          refine X.opsEnd ?_
          refine hback (i + 1) _ _ ⟨rfl, rfl, trivial⟩ ⟨by omega, ok_step (okAt_T0 hq hT hN (by omega)) hI, ((hk.trans hk1).trans hk2)⟩ (by omega)
  · refine X.opsEnd ?_
    refine X.condF rfl ?_
    refine X.exit rfl ?_
    refine X.seq ?_
    refine X.region ?_
    refine X.opw X.wN rfl (X.assign rfl) ?_
    refine X.opsEnd ?_
    refine X.ret1 (v := (.bool _)) Tryz.func10 Tryz.results10 rfl ?_
    exact ⟨by rw [isR_T (fun j hj => hI j (by omega))], hk⟩
def entB (q : CD) : List UInt8 := if isT q.1 = true then cntB q.1 q.2 else []
set_option maxHeartbeats 4000000 in
set_option maxRecDepth 100000 in
theorem entry_c {lo hi : Nat} {A : Option Addr} {n c : Nat} {q : CD} {N : Int} (w : World) (hs : Sl KV lo hi w A n q.1) (hhi : hi ≤ w.heap.size) (hN : okI N) (hq : N = q.2) : Ret Tryz.prog 102 #[.agg #[.slice A n c, .int .i64 N]] w fun r w' => FreshB w w' r (entB q) := by
  refine X.enter Tryz.func102 rfl Tryz.ntmps102 rfl ?_
  refine X.seq ?_
  refine X.region ?_
  refine X.opE X.wN rfl (X.boxE rfl rfl) ?_
  rintro _ w1 ⟨rfl, hB1, hk1, hz1⟩
  refine X.opw X.wN rfl (X.assign rfl) ?_
  refine X.opsEnd ?_
  refine X.seq ?_
  refine X.region ?_
  refine X.opw X.wN rfl (X.loadNB Tryz.isAgg40 Tryz.sizeOf40 hB1 rfl rfl rfl) ?_
  refine X.opE X.wN rfl (X.callE (Counted_c _ hN _ (hs.keep hk1) (by omega)) Tryz.call141 rfl rfl) ?_
  rintro _ w2 ⟨v, rfl, hM2, hk2⟩
  have hk2' := hk2.size
  refine X.opw X.wN rfl (X.move rfl) ?_
  refine X.opw X.wN rfl (X.extr rfl rfl) ?_
  refine X.opw X.wN rfl (X.extr rfl rfl) ?_
  refine X.opw X.wN rfl (X.assign rfl) ?_
  refine X.opw X.wN rfl (X.assign (v := .int .i64 _) rfl) ?_
  refine X.opsEnd ?_
  refine X.seq ?_
  refine X.region ?_
  refine X.opw X.wN rfl (X.move rfl) ?_
  refine X.opw X.wN rfl (X.assign rfl) ?_
  refine X.opsEnd ?_
  refine X.ret1 Tryz.func102 Tryz.results102 rfl ?_
  subst hq
  exact ⟨hM2.mono (fun k _ hk => by (try simp only [] at *); omega), (hk1.trans hk2)⟩
set_option maxHeartbeats 4000000 in
set_option maxRecDepth 100000 in
theorem Rentry_c {lo hi : Nat} {A : Option Addr} {n c : Nat} {q : CD} {N : Int} (w : World) (hs : Sl KV lo hi w A n q.1) (hhi : hi ≤ w.heap.size) (hN : okI N) (hq : N = q.2) : Ret Tryz.prog 63 #[.agg #[.slice A n c, .int .i64 N]] w fun r w' => FreshB w w' r (entB q) := by
  refine X.enter Tryz.func63 rfl Tryz.ntmps63 rfl ?_
  refine X.seq ?_
  refine X.region ?_
  refine X.opE X.wN rfl (X.boxE rfl rfl) ?_
  rintro _ w1 ⟨rfl, hB1, hk1, hz1⟩
  refine X.opw X.wN rfl (X.assign rfl) ?_
  refine X.opsEnd ?_
  refine X.seq ?_
  refine X.region ?_
  refine X.opw X.wN rfl (X.loadNB Tryz.isAgg40 Tryz.sizeOf40 hB1 rfl rfl rfl) ?_
  refine X.opE X.wN rfl (X.callE (RCounted_c _ hN _ (hs.keep hk1) (by omega)) Tryz.call111 rfl rfl) ?_
  rintro _ w2 ⟨v, rfl, hM2, hk2⟩
  have hk2' := hk2.size
  refine X.opw X.wN rfl (X.move rfl) ?_
  refine X.opw X.wN rfl (X.extr rfl rfl) ?_
  refine X.opw X.wN rfl (X.extr rfl rfl) ?_
  refine X.opw X.wN rfl (X.assign rfl) ?_
  refine X.opw X.wN rfl (X.assign (v := .int .i64 _) rfl) ?_
  refine X.opsEnd ?_
  refine X.seq ?_
  refine X.region ?_
  refine X.opw X.wN rfl (X.move rfl) ?_
  refine X.opw X.wN rfl (X.assign rfl) ?_
  refine X.opsEnd ?_
  refine X.ret1 Tryz.func63 Tryz.results63 rfl ?_
  subst hq
  exact ⟨hM2.mono (fun k _ hk => by (try simp only [] at *); omega), (hk1.trans hk2)⟩
end Go.Proofs.YtbljooblpfdbiaaGreatDoor
namespace Go.Proofs.YtbljooblpfdbiaaGreatDoor
open Go Go.Proofs.YtbljooblpfdbiaaGreatDoor.X
theorem len_flat {α : Type} {f : α → List UInt8} {k : Nat} : ∀ {l : List α}, (∀ x, x ∈ l → (f x).length ≤ k) → (l.flatMap f).length ≤ l.length * k
  | [], _ => by simp
  | x :: l, h => by
    have h1 := h x List.mem_cons_self
    have h2 := len_flat (l := l) fun y hy => h y (List.mem_cons_of_mem _ hy)
    rw [List.flatMap_cons, List.length_append, List.length_cons, Nat.add_mul]; omega
theorem valB_le {v : VAL} (h : okV v) (hv : isV v = true) : (valB v).length ≤ 270 := by
  unfold valB
  have h2 := of_decide_eq_true hv
  split
  · rename_i h1
    have := numB_10 (zig v.2.1) (zig_ok _ h.2.1).2
    rw [List.length_cons]; omega
  · rename_i h1
    have h3 : v.2.2.size ≤ 256 := by rcases h2 with h2 | h2; exact absurd h2.1 h1; exact h2.2.2
    have := numB_10 (v.2.2.data.toList.length : Int) (by rw [sym_len]; omega)
    rw [Int.toNat_natCast] at this
    rw [List.length_cons, textB, List.length_append, sym_len]
    rw [sym_len] at this; omega
theorem valK_le {v : VAL} (hv : isV v = true) : (valK v).length ≤ 520 := by
  unfold valK
  have h2 := of_decide_eq_true hv
  split
  · simp
  · rename_i h1
    have h3 : v.2.2.size ≤ 256 := by rcases h2 with h2 | h2; exact absurd h2.1 h1; exact h2.2.2
    have := esc_len v.2.2.data.toList
    rw [sym_len] at this
    rw [List.length_cons, List.length_append]; simp only [List.length_cons, List.length_nil]; omega
def Oks (l : List CD) : Prop := ∀ q, q ∈ l → okI q.2 ∧ ∀ v, v ∈ q.1 → okV v
theorem tup_le {t : List VAL} (h : ∀ v, v ∈ t → okV v) (ht : isT t = true) : (tupB t).length ≤ 2161 ∧ (keyB t).length ≤ 4160 := by
  have h8 := isT_len ht
  have h1 : ∀ v, v ∈ t → isV v = true := isT_all ht
  have a := len_flat (f := valB) (k := 270) (l := t) fun v hv => valB_le (h v hv) (h1 v hv)
  have b := len_flat (f := valK) (k := 520) (l := t) fun v hv => valK_le (h1 v hv)
  rw [tupB, keyB, List.length_cons]; omega
theorem entB_le {q : CD} (h : okI q.2 ∧ ∀ v, v ∈ q.1 → okV v) : (entB q).length ≤ 2200 := by
  rw [entB]
  split
  · rename_i ht
    have a := (tup_le h.2 ht).1
    have b := numB_10 (zig q.2) (zig_ok _ h.1).2
    rw [cntB, List.length_append]; omega
  · simp
def pgsF : List CD → List CD → List (List CD)
  | cur, [] => if cur = [] then [] else [cur]
  | cur, q :: l => if cur ≠ [] ∧ 256 < (cur.flatMap entB).length + (entB q).length then cur :: pgsF [q] l else pgsF (cur ++ [q]) l
def pgs (l : List CD) : List (List CD) := pgsF [] l
theorem pgsF_flat : ∀ (l cur : List CD), (pgsF cur l).flatten = cur ++ l
  | [], cur => by rw [pgsF]; split <;> simp_all
  | q :: l, cur => by
    rw [pgsF]; split
    · rw [List.flatten_cons, pgsF_flat l]; simp
    · rw [pgsF_flat l]; simp
theorem pgs_flat (l : List CD) : (pgs l).flatten = l := pgsF_flat l []
theorem pgsF_ne : ∀ (l cur : List CD) (p : List CD), p ∈ pgsF cur l → p ≠ []
  | [], cur, p, h => by
    rw [pgsF] at h; split at h
    · cases h
    · rw [List.mem_singleton.1 h]; assumption
  | q :: l, cur, p, h => by
    rw [pgsF] at h; split at h
    · rename_i hc
      rcases List.mem_cons.1 h with rfl | h
      · exact hc.1
      · exact pgsF_ne l _ p h
    · exact pgsF_ne l _ p h
theorem pgs_ne {l p : List CD} (h : p ∈ pgs l) : p ≠ [] := pgsF_ne _ _ _ h
theorem pgs_sub {l p : List CD} (h : p ∈ pgs l) : ∀ q, q ∈ p → q ∈ l := fun q hq => by rw [← pgs_flat l]; exact List.mem_flatten.2 ⟨p, h, hq⟩
theorem flatten_len {α : Type} : ∀ {ps : List (List α)}, (∀ p, p ∈ ps → p ≠ []) → ps.length ≤ ps.flatten.length
  | [], _ => Nat.le_refl _
  | p :: ps, h => by
    have h1 := List.length_pos_iff.2 (h p List.mem_cons_self)
    have h2 := flatten_len (ps := ps) fun q hq => h q (List.mem_cons_of_mem _ hq)
    rw [List.flatten_cons, List.length_append, List.length_cons]; omega
theorem pgs_len (l : List CD) : (pgs l).length ≤ l.length := by
  have := flatten_len (ps := pgs l) fun p hp => pgs_ne hp
  rwa [pgs_flat] at this
theorem mem_len {α : Type} : ∀ {ps : List (List α)} {p : List α}, p ∈ ps → p.length ≤ ps.flatten.length
  | q :: ps, p, h => by
    rw [List.flatten_cons, List.length_append]
    rcases List.mem_cons.1 h with rfl | h
    · omega
    · have := mem_len h; omega
theorem pgs_plen {l p : List CD} (h : p ∈ pgs l) : p.length ≤ l.length := by have := mem_len h; rwa [pgs_flat] at this
def pageB (p : List CD) : List UInt8 := sealC (numB p.length ++ p.flatMap entB)
def headT (p : List CD) : List VAL := (p.head?.map (·.1)).getD []
def leafB (p : List CD) : List UInt8 := numB (pageB p).length ++ textB (keyB (headT p))
def idxB (ps : List (List CD)) (n : Nat) : List UInt8 := sealC (numB ps.length ++ numB n ++ ps.flatMap leafB)
def low4 (k : Nat) : List UInt8 := [UInt8.ofNat k, UInt8.ofNat (k / 2 ^ 8), UInt8.ofNat (k / 2 ^ 16), UInt8.ofNat (k / 2 ^ 24)]
def tailB (k : Nat) : List UInt8 := sealC (low4 k)
def runB (l : List CD) : List UInt8 := (pgs l).flatMap pageB ++ idxB (pgs l) l.length ++ tailB (idxB (pgs l) l.length).length
theorem numB_le {k : Nat} (h : k ≤ 1000000000) : (numB k).length ≤ 10 := by have := numB_10 (k : Int) (by omega); rwa [Int.toNat_natCast] at this
theorem ents_le {p : List CD} (h : Oks p) : (p.flatMap entB).length ≤ p.length * 2200 := len_flat fun q hq => entB_le (h q hq)
theorem pageB_le {p : List CD} (h : Oks p) (hl : p.length ≤ 100) : (pageB p).length ≤ 14 + p.length * 2200 := by
  have a := ents_le h
  have b := numB_le (k := p.length) (by omega)
  rw [pageB, seal_len, List.length_append]; omega
theorem headT_ok {p : List CD} (h : Oks p) (hT : ∀ q, q ∈ p → isT q.1 = true) : (keyB (headT p)).length ≤ 4160 := by
  cases p with
  | nil => exact (by decide : (0 : Nat) ≤ 4160)
  | cons q p => exact (tup_le (h q List.mem_cons_self).2 (hT q List.mem_cons_self)).2
theorem leafB_le {p : List CD} (h : Oks p) (hT : ∀ q, q ∈ p → isT q.1 = true) (hl : p.length ≤ 100) : (leafB p).length ≤ 4200 := by
  have a := pageB_le h hl
  have b := headT_ok h hT
  have c := numB_le (k := (pageB p).length) (by omega)
  have d := numB_le (k := (keyB (headT p)).length) (by omega)
  rw [leafB, textB, List.length_append, List.length_append]; omega
theorem Oks.sub {l p : List CD} (h : Oks l) (hp : ∀ q, q ∈ p → q ∈ l) : Oks p := fun q hq => h q (hp q hq)
theorem isR_T' {l : List CD} (h : isR l = true) : ∀ q, q ∈ l → isT q.1 = true ∧ q.2 ≠ 0 := fun q hq => by
  obtain ⟨i, hi⟩ := List.getElem?_of_mem hq
  have := okAt_t hi (isR_at h i); exact ⟨this.1, this.2.1⟩
theorem flat_sum : ∀ (ps : List (List CD)), (∀ p, p ∈ ps → Oks p ∧ p.length ≤ 100) → (ps.flatMap pageB).length ≤ ps.length * 14 + ps.flatten.length * 2200
  | [], _ => by simp
  | p :: ps, h => by
    have a := pageB_le (h p List.mem_cons_self).1 (h p List.mem_cons_self).2
    have b := flat_sum ps fun q hq => h q (List.mem_cons_of_mem _ hq)
    simp only [List.flatMap_cons, List.flatten_cons, List.length_append, List.length_cons]; omega
theorem run_sizes {l : List CD} (h : Oks l) (hr : isR l = true) (hl : l.length ≤ 100) : ((pgs l).flatMap pageB).length ≤ 222000 ∧ ((pgs l).flatMap leafB).length ≤ 420000 ∧ (idxB (pgs l) l.length).length ≤ 420100 ∧ (runB l).length ≤ 642200 := by
  have hp : ∀ p, p ∈ pgs l → Oks p ∧ p.length ≤ 100 := fun p hp => ⟨h.sub (pgs_sub hp), Nat.le_trans (pgs_plen hp) hl⟩
  have a := flat_sum (pgs l) hp
  rw [pgs_flat] at a
  have b := pgs_len l
  have c := len_flat (f := leafB) (k := 4200) (l := pgs l) fun p q => leafB_le (hp p q).1 (fun x hx => (isR_T' hr x (pgs_sub q x hx)).1) (hp p q).2
  have d := numB_le (k := (pgs l).length) (by omega)
  have e := numB_le (k := l.length) (by omega)
  have f : (idxB (pgs l) l.length).length ≤ 420100 := by rw [idxB, seal_len, List.length_append, List.length_append]; omega
  have g : (tailB (idxB (pgs l) l.length).length).length = 8 := by rw [tailB, seal_len]; rfl
  refine ⟨by omega, by omega, f, ?_⟩
  rw [runB, List.length_append, List.length_append, g]; omega
end Go.Proofs.YtbljooblpfdbiaaGreatDoor
